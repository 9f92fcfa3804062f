/- A part. No condition. -/
import Derived.Test.YtegjlbpnpiigkaaGreatDoorP36
import Derived.Test.YtegjlbpnpiigkaaGreatDoorP37
set_option linter.all false
section
namespace Go.Hs
open Go.Proofs
set_option maxRecDepth 100000
def Z8l(s:Sg):V:=.agg [.str s.text,.int .i64 s.level,.int .i64 s.parts]
theorem Z7l(s:Sg):Z8l s=.agg [.str s.text,.int .i64 s.level,.int .i64 s.parts]:=rfl
theorem Zz2(s:Sg):(Z8l s).cells.length=3:=rfl
def tabC:List V:=flat (tabL.map Z8l)
theorem Zc8(op:Nat)(h:op<23)(k:Nat)(hk:k<3):tabC[op*3+k]?=((Z8l (tabL.getD op ⟨[],0,0⟩)).cells)[k]? := by
 match k,hk with
 |0,_=>exact match op,h with
  |0,_=>rfl
  |1,_=>rfl
  |2,_=>rfl
  |3,_=>rfl
  |4,_=>rfl
  |5,_=>rfl
  |6,_=>rfl
  |7,_=>rfl
  |8,_=>rfl
  |9,_=>rfl
  |10,_=>rfl
  |11,_=>rfl
  |12,_=>rfl
  |13,_=>rfl
  |14,_=>rfl
  |15,_=>rfl
  |16,_=>rfl
  |17,_=>rfl
  |18,_=>rfl
  |19,_=>rfl
  |20,_=>rfl
  |21,_=>rfl
  |22,_=>rfl
  |n+23,h=>absurd h zo
 |1,_=>exact match op,h with
  |0,_=>rfl
  |1,_=>rfl
  |2,_=>rfl
  |3,_=>rfl
  |4,_=>rfl
  |5,_=>rfl
  |6,_=>rfl
  |7,_=>rfl
  |8,_=>rfl
  |9,_=>rfl
  |10,_=>rfl
  |11,_=>rfl
  |12,_=>rfl
  |13,_=>rfl
  |14,_=>rfl
  |15,_=>rfl
  |16,_=>rfl
  |17,_=>rfl
  |18,_=>rfl
  |19,_=>rfl
  |20,_=>rfl
  |21,_=>rfl
  |22,_=>rfl
  |n+23,h=>absurd h zo
 |2,_=>exact match op,h with
  |0,_=>rfl
  |1,_=>rfl
  |2,_=>rfl
  |3,_=>rfl
  |4,_=>rfl
  |5,_=>rfl
  |6,_=>rfl
  |7,_=>rfl
  |8,_=>rfl
  |9,_=>rfl
  |10,_=>rfl
  |11,_=>rfl
  |12,_=>rfl
  |13,_=>rfl
  |14,_=>rfl
  |15,_=>rfl
  |16,_=>rfl
  |17,_=>rfl
  |18,_=>rfl
  |19,_=>rfl
  |20,_=>rfl
  |21,_=>rfl
  |22,_=>rfl
  |n+23,h=>absurd h zo
theorem Z0la(op:Nat)(h:op<23):tabC[op*3+1]?=some (.int .i64 (lvl op)):=by rw[Zc8 op h 1 zd]<;>rfl
theorem Z3s:tabC.length=69:=rfl
theorem Zi1(f:Col->Col):(V.agg tabC).recol f=.agg tabC:=by
 have:Z8a f tabC=tabC:=by
  rw[Z8]
  have:∀ v∈tabC,v.recol f=v:=by
   intro v hv;unfold tabC flat at hv;rw[List.mem_flatMap]at hv;obtain⟨a,ha,hv⟩:=hv;obtain⟨s,_,rfl⟩:=List.mem_map.1 ha;simp only[Z7l,V.cells,List.mem_cons,List.not_mem_nil,or_false]at hv
   rcases hv with rfl|rfl|rfl<;>rfl
  exact(List.map_congr_left this).trans (List.map_id _)
 rw[V.recol,this]
theorem Z8s:∀ (c l:List V) (off:Nat),off+c.length<=l.length->Hs.setAt l off c=l.take off++c++l.drop (off+c.length)
 |[],l,off,_=>by simp[Hs.setAt]
 |v::r,l,off,h=>by
  simp only[List.length_cons]at h;rw[Hs.setAt,Z8s r (l.set off v) (off+1) (by rw[List.length_set];omega)]
  have h1:(l.set off v).take (off+1)=l.take off++[v]:=by
   rw[List.take_add_one,List.getElem?_set_self zo,List.take_set_of_le (Nat.le_refl _)]<;>rfl
  have h2:(l.set off v).drop (off+1+r.length)=l.drop (off+(r.length+1)):=by
   rw[List.drop_set_of_lt zo]
   congr 1;omega
  rw[h1,h2];simp
theorem Zpv{l c:List V}(h:c.length=l.length):Hs.setAt l 0 c=c:=by
 rw[Z8s c l 0 zo,h];simp
theorem Zuo(l:List V)(h:l.length=69):Hs.setAt l 0 tabC=tabC:=Zpv (by rw[h]<;>rfl)
theorem Zij(G:Nat->V)(hG:GOk G):Spec Tryz.prog G 297 [] Zk (λv _=>v=.agg tabC):=by
 refine Zo 0 24 [.cell 0 336] Tryz.func297 λX=>?_;refine Z1 ?_;intro g0;exact Zr
structure FnG(G:Nat->V)(f:FuncId)(cap:List V)(p:Sg->Bool):Prop where
 en:Zia Tryz.prog f=true
 rc:cap.map (V.recol Col.ent)=cap
 sp:∀ s:Sg,Spec Tryz.prog G f (Z8l s::cap) Zk (λv _=>v=.bool (p s))
theorem Zo8(f:Col->Col)(s:Sg):(Z8l s).recol f=Z8l s:=by simp only[Z7l,Zdc,List.map_cons,List.map_nil,Zcc,Zoc]
theorem Zgn(G:Nat->V)(hG:GOk G)(c:Col)(s:Sl Sg)(hs:s.l.length<1000000){f:FuncId}{cap:List V}{p:Sg->Bool}(hf:FnG G f cap p):
  Spec Tryz.prog G 325 [Zb c 3 Z8l s,.func (.func f) [] cap] Zk (λv _=>v=.int .i64 (Zwu p s.l)):=by
 refine Zo 0 19 [.tmp 4] Tryz.func325 λX=>?_;refine Z1 ?_;refine Z1 ?_;refine AW.block ?_
 refine Z9 s.l.length (λk (_:Unit)=>st [(0,Zb c 3 Z8l s),(1,.func (.func f) [] cap),(7,.int .i64 s.l.length),(8,.int .i64 k)] []) (λk _=>∀ y∈s.l.take k,p y=false) 0 () (Nat.zero_le _) zS
  (Za zp zp) ?_
 intro k _ hk hR L2 hL2;refine Z1 ?_;refine Z4 ?_;refine Zi rfl (λh4=>?_) (λh4=>?_);have hk1:k<s.l.length:=zu h4;have hg:=List.getElem?_eq_getElem hk1;generalize s.l[k]=x at hg;refine Z1 ?_;refine Z1f (zi hg @Z7l) ?_;refine CallA.pure hG hf.en ?_;simp only[List.map_cons,hf.rc,<- Z7l,Zo8];refine(hf.sp x).mono ?_;rintro _ _ rfl;refine Zs ?_;refine Zi rfl (λh6=>?_) (λh6=>?_);refine Z ?_;rw[Zif hg hR h6];refine Z1 ?_;refine hL2 _ ⟨hk1,(),Zce hg hR h6,Za zw zp⟩
 have hk1:k=s.l.length:=by simp at h4;omega
 refine Z ?_;rw[hk1,List.take_length]at hR;rw[Zjf hR]
theorem Zpfa(G:Nat->V)(hG:GOk G)(t:List UInt8)(p:Int)(s:Sg):Spec Tryz.prog G 326 [Z8l s,.view .old (.str t),.view .old (.int .i64 p)] Zk (λv _=>v=.bool (sgIs t p s)):=by
 refine Zo 0 20 [.tmp 4] Tryz.func326 λX=>?_;simp only[Z7l];refine Z6 λK hK=>AW.region zk ?_;refine Zs ?_;intro g3;refine hK _ ?_
 try clear hK K
 unfold sgIs
 cases h1:(s.text==t)<;>cases h2:(s.parts==p)<;>cases h3:(s.text==[])<;>((refine Z6 λK hK=>AW.region zk ?_;simp -implicitDefEqProofs only[go_sem,seval,bne,h1,h2,h3];refine hK _ ?_;clear hK K);(refine AW.ret ?_;refine Zs ?_;refine Z7a ?_);rfl)
theorem fOf1{G:Nat->V}(hG:GOk G)(t:List UInt8)(p:Int):FnG G 326 [.view .old (.str t),.view .old (.int .i64 p)] (sgIs t p):=⟨by kernel_rfl,rfl,Zpfa G hG t p⟩
theorem Z3na(t:List UInt8)(p:Int):Zwu (sgIs t p) tabL=match ofI t p with|some i=>(i:Int)|none => -1:=rfl
def encOf(o:Nat×Bool):V:=.tuple [.int .u8 o.1,.bool o.2]
theorem Z9oa{t:List UInt8}{p:Int}{i:Nat}(h:ofI t p=some i):i<23:=(List.findIdx?_eq_some_iff_getElem.1 h).1
theorem Zxs(G:Nat->V)(hG:GOk G)(t:List UInt8)(p:Int):Spec Tryz.prog G 299 [.str t,.int .i64 p] Zk (λv _=>v=encOf (ofP t p)):=by
 refine Zo 0 17 [.tmp 4,.tmp 5] Tryz.func299 λX=>?_;refine Z1 ?_;intro g2 g3;refine Z1 ?_;refine Zn hG ?_ (s:=(Zij G hG));refine Zsf (zi @Zi1 (zi @Z3s @Nat.le_refl)) ?_;intro g6;rw[Zuo _ ?hl]
 case hl=>rfl
 refine Z4<|Zyf 0 zk rfl rfl ?_
 simp -implicitDefEqProofs only[go_sem,seval,List.take_zero];refine⟨_,Zmr Tryz.underlying336 zk (ob:=6) (g:=g6) (m:=3) (c:=.new) (fz:=0) (cs:=tabC) zp zp zd,?_⟩;refine Zua hG [Zb .old 3 Z8l (.mk false tabL),.func (.func 326) [] [.view .old (.str t),.view .old (.int .i64 p)]] zk ⟨?_,Zs9 ⟨?_,?_,trivial⟩,trivial⟩ ?_
 exact Rd.msl (off:=0) (n:=23) (l:=tabL) (f:=Z8l) (f':=Z8l) (g:=g6) (fz:=0) (c:=.new) zp Zz2 (λx y hy=>by
  simp only[Z7l,V.cells,List.mem_cons,List.not_mem_nil,or_false]at hy
  rcases hy with rfl|rfl|rfl
  exact .str _;exact .int _ _
  exact .int _ _) (Zo8 _) zd
 exact Rd.ptr (v:=.str t) (c:=.new) (fz:=0) zp (by intro y hy;simp[V.cells]at hy;subst hy;exact .str _) zp;exact Rd.ptr (v:=.int .i64 p) (c:=.new) (fz:=0) zp (by intro y hy;simp[V.cells]at hy;subst hy;exact .int _ _) zp;refine(Zgn G hG _ (.mk false tabL) zd (fOf1 hG t p)).mono ?_;rintro _ _ rfl;refine⟨.int _ _,?_⟩;refine Zs ?_;have hI:=Z3na t p;unfold ofP
 show AW _ _ _ _ { τ := upd _ 7 (.int .i64 (Zwu (sgIs t p) tabL)),H:=_ }
 rw[hI]
 cases ho:ofI t p with
 |none=>
  exact Zr
 |some i=>
  have hi:=Z9oa ho;refine AW.weak (Za (l:=[(7,.int .i64 i)]) (m:=[]) zp zp) ?_
  have h0:((0:Int)>(i:Int))=False:=by rw[eq_iff_iff,iff_false];omega
  have hw:IntKind.u8.wrap (i:Int)=i:=by
   unfold IntKind.wrap;simp[IntKind.signed,IntKind.bits];omega
  have h1:decide ((i:Int)>=0)=true:=zT;exact Zq (zi h0 (zi hw h1))
end Go.Hs
end

section
namespace Go.Hs
open Go.Proofs
set_option maxRecDepth 10000
def Zxa(n:XN):V:=.agg [.int .u8 n.op,.int .i64 n.num,.str n.name,.int .i64 n.a,.int .i64 n.b,.int .i64 n.c]
theorem Z5a(n:XN):Zxa n=.agg [.int .u8 n.op,.int .i64 n.num,.str n.name,.int .i64 n.a,.int .i64 n.b,.int .i64 n.c]:=rfl
theorem Z9d(n:XN):(Zxa n).cells.length=6:=rfl
theorem Zdb(t:Tk):Zeb t=.agg [.int .u8 t.kind,.str t.text,.int .i64 t.pos]:=rfl
theorem Zhi(f:Col->Col)(n:XN):(Zxa n).recol f=Zxa n:=by simp only[Z5a,Zdc,List.map_cons,List.map_nil,Zcc,Zoc]
theorem Znma(f:Col->Col)(t:Tk):(Zeb t).recol f=Zeb t:=by simp only[Zdb,Zdc,List.map_cons,List.map_nil,Zcc,Zoc]
@[go_sem] theorem Zta(g:Col->Col)(c:Col)(s:Sl Tk):(Zb c 3 Zeb s).recol g=Zb (g c) 3 Zeb s:=Zdd g c 3 (Znma g) s
@[go_sem] theorem Zfa(g:Col->Col)(c:Col)(s:Sl XN):(Zb c 6 Zxa s).recol g=Zb (g c) 6 Zxa s:=Zdd g c 6 (Zhi g) s
def rdO(NO:Nat)(tl:List V)(sl:Sl Tk)(g gx:Nat)(r:RS):AObj:=.cells .any g 0 (Zb .any 3 Zeb sl::.int .i64 r.i::grown NO gx 6 r.nodes::.int .i64 r.e::tl)
def ndO(gx:Nat)(ns:List XN):AObj:=grownC .any gx Zxa ns
theorem Zva(NO:Nat)(tl:List V)(sl:Sl Tk)(g gx:Nat)(r:RS):rdO NO tl sl g gx r=.cells .any g 0 (Zb .any 3 Zeb sl::.int .i64 r.i::grown NO gx 6 r.nodes::.int .i64 r.e::tl):=rfl
def RdS(NO:Nat)(tl:List V)(G:Nat->V)(f:FuncId)(args:List V)(sl:Sl Tk)(g:Nat)(r:RS)(v:V)(r':RS):Prop:=
 ∀ gx,Spec Tryz.prog G f (.ptr 8 g 0::args) (Zab Zk [(8,rdO NO tl sl g gx r),(NO,ndO gx r.nodes)]) (λv0 H'=>v0=v/\∃ gx',H' 8=rdO NO tl sl g gx' r'/\H' NO=ndO gx' r'.nodes)
theorem RdS.call{NO:Nat}{tl:List V}{G:Nat->V}(hG:GOk G){f:FuncId}{args args':List V}{sl:Sl Tk}{g gx:Nat}{r r':RS}{v:V}(h:RdS NO tl G f args' sl g r v r'){H:Heap}{K:V->Heap->Prop}
  (hen:Zia Tryz.prog f=true) (htl:∀ F:Col->Col,tl.map (V.recol F)=tl) (hne:8≠NO) (hargs:args.map (V.recol Col.ent)=args') (hv:v.recol Col.bk=v)
  (h8:H 8=rdO NO tl sl g gx r) (hN:H NO=ndO gx r.nodes)
  (hk:∀ gx',K v (Zab H [(8,rdO NO tl sl g gx' r'),(NO,ndO gx' r'.nodes)])):
  CallA Tryz.prog G f (.ptr 8 g 0::args) H K:=by
 have e8:∀ (F:Col->Col) gx r,F .any=.any->(rdO NO tl sl g gx r).recol F=rdO NO tl sl g gx r:=by
  intro F gx r hF;simp only[Zva,recol_cells,List.map_cons,Z3d,Zta,Zcc,hF,htl]
 have eN:∀ (F:Col->Col) gx ns,F .any=.any->(ndO gx ns).recol F=ndO gx ns:=by
  intro F gx ns hF;rw[ndO,Ztw F .any gx Zxa Zxa (Zhi F),hF]
 refine CallA.hand hG [(8,rdO NO tl sl g gx r),(NO,ndO gx r.nodes)] hen ?_ ?_;intro p hp;simp only[List.mem_cons,List.not_mem_nil,or_false]at hp
 rcases hp with rfl|rfl
 rw[h8,e8 _ _ _ rfl];rw[hN,eN _ _ _ rfl]
 have ha:(V.ptr 8 g 0::args).map (V.recol Col.ent)=.ptr 8 g 0::args':=by rw[List.map_cons,Zsh,hargs]
 rw[ha];refine(h gx).mono ?_;rintro _ H' ⟨rfl,gx',q8,qN⟩;simp only[List.map_cons,List.map_nil,q8,qN,e8 _ _ _ Zn9,eN _ _ _ Zn9,hv];exact hk gx'
theorem Zca{NO:Nat}{tl:List V}{G:Nat->V}(hG:GOk G){f:FuncId}{args args':List V}{sl:Sl Tk}{g gx:Nat}{r r':RS}{v:V}(h:RdS NO tl G f args' sl g r v r'){H:Heap}{K:V->Heap->Prop}
  (hk:∀ gx',K v (Zab H [(8,rdO NO tl sl g gx' r'),(NO,ndO gx' r'.nodes)])) (hen:Zia Tryz.prog f=true:=by kernel_rfl) (htl:∀ F:Col->Col,tl.map (V.recol F)=tl:=by exact λF=>rfl) (hne:8≠NO:=by decide)
  (hargs:args.map (V.recol Col.ent)=args':=by exact zx) (hv:v.recol Col.bk=v:=by exact zm) (h8:H 8=rdO NO tl sl g gx r:=by exact zr) (hN:H NO=ndO gx r.nodes:=by exact zr):
  CallA Tryz.prog G f (.ptr 8 g 0::args) H K:=RdS.call hG h hen htl hne hargs hv h8 hN hk
structure TkOk(l:List Tk):Prop where
 len:l.length<100000
 text:∀ t∈l,t.text.length<100000
theorem Zbs{l:List Tk}{i:Nat}{t:Tk}(h:l[i]?=some t):Zea l i=if(isP t.text:Int)=t.kind then t else⟨0,[],0⟩:=by unfold Zea;rw[h]
theorem Zyl{l:List Tk}{i:Nat}(h:l.length<=i):Zea l i=⟨0,[],0⟩:=by unfold Zea;rw[List.getElem?_eq_none h]
theorem Zfl(G:Nat->V)(hE:GExp G)(sl:Sl Tk)(hT:TkOk sl.l)(g:Nat)(r:RS)(hr:r.i<1000000):RdS 1031 [.func (.func 279) [] []] G 298 [] sl g r (Zeb (Zea sl.l r.i)) r:=by
 have hG:=hE.ok;intro gx;refine Zo 1000 50 [.cell 2 237] Tryz.func298 λX=>?_;simp only[Zab,Zva];refine Z1 ?_;intro g2;refine Z4 ?_
 by_cases hi:r.i<sl.l.length
 have h1:decide ((r.i:Int)<sl.l.length)=true:=zT;have hg:=List.getElem?_eq_getElem hi;have hm:=hT.text _ (List.getElem_mem hi);generalize sl.l[r.i]=t at hg hm;have hP:=Zbs hg
 have p1:Z7i Tryz.prog G 142 [.str t.text] (.int .u8 (isP t.text)):=⟨by kernel_rfl,by
  refine Zs ?_;refine(Z7f G hE t.text zo).mono ?_;rintro _ _ rfl
  rfl⟩
 by_cases hk:(isP t.text:Int)=t.kind
 rw[if_pos hk]at hP;have e1:((isP t.text:Int)==t.kind)=true:=zu hk
 refine Z4<|Zw ⟨λi=>if i=22 then .int .u8 (isP t.text)else .top,λ_=>.pure⟩ zk hG zk zk ?_
 refine Zsf (zi h1 (zi hg (zi @Zdb e1))) ?_;refine⟨p1,?_⟩;refine Zi rfl (λh2=>?_) (λh2=>?_);refine ZTf (zi hg @Zdb) hG ?_;refine Z ?_;exact⟨by rw[hP]<;>rfl,gx,zp,zp⟩;cases h2;rw[if_neg hk]at hP;have e1:((isP t.text:Int)==t.kind)=false:=zu hk
 refine Z4<|Zw ⟨λi=>if i=22 then .int .u8 (isP t.text)else .top,λ_=>.pure⟩ zk hG zk zk ?_
 refine Zsf (zi h1 (zi hg (zi @Zdb e1))) ?_;refine⟨p1,?_⟩;refine Zbb rfl ?_;refine Z ?_;exact⟨by rw[hP]<;>rfl,gx,zp,zp⟩;have h1:decide ((r.i:Int)<sl.l.length)=false:=zF;have hP:=Zyl (l:=sl.l) (i:=r.i) zo;refine ZTf h1 hG ?_;refine Zbb rfl ?_;refine Z ?_;exact⟨by rw[hP]<;>rfl,gx,zp,zp⟩
theorem Zbi(G:Nat->V)(hG:GOk G)(sl:Sl Tk)(g:Nat)(r:RS)(hr:r.nodes.length<1000000):RdS 1031 [.func (.func 279) [] []] G 300 [] sl g r (.int .i64 r.last) r:=by
 intro gx;refine Zo 1000 9 [.tmp 2] Tryz.func300 λX=>?_;simp only[Zab,Zva];refine Z ?_;exact⟨by rw[w64 zo zo]<;>rfl,gx,zp,zp⟩
theorem Zov{l:List Int}(h:l.length<=3):setAt [V.int .i64 (-1),V.int .i64 (-1),V.int .i64 (-1)] 0 (l.map (V.int .i64))=[V.int .i64 (l.getD 0 (-1)),V.int .i64 (l.getD 1 (-1)),V.int .i64 (l.getD 2 (-1))]:=by
 match l,h with
 |[],_=>rfl
 |[_],_=>rfl
 |[_,_],_=>rfl
 |[_,_,_],_=>rfl
theorem Zjs(k:IntKind)(l:List Int):flat (l.map (V.int k))=l.map (V.int k):=by
 induction l with
 |nil=>rfl
 |cons x r ih=>unfold flat at ih⊢;rw[List.map_cons,List.flatMap_cons,ih]<;>rfl
def Z5aa(n:XN)(ps:List Int):XN:={ n with a:=ps.getD 0 (-1),b:=ps.getD 1 (-1),c:=ps.getD 2 (-1) }
theorem Z7j(G:Nat->V)(hG:GOk G)(sl:Sl Tk)(g:Nat)(r:RS)(hr:r.nodes.length<1000000)(n:XN)(c:Col)(ps:Sl Int)(hps:ps.l.length<=3):
  RdS 1031 [.func (.func 279) [] []] G 301 [Zxa n,Zb c 1 (V.int .i64) ps] sl g r (.bool true) (r.put (Z5aa n ps.l)):=by
 intro gx;refine Zo 1000 34 [.tmp 6] Tryz.func301 λX=>?_;simp only[Zab,Zva,Z5a];refine Z1 ?_;intro g4;refine Z1 ?_;intro g8
 refine Z4<|Zmm 2 zk rfl rfl ?_
 simp -implicitDefEqProofs only[go_sem,seval,List.take_succ_cons,List.take_zero];refine⟨_,_,GivesE.copy Tryz.underlying66 zk (ob:=1008) (g:=g8) (m:=1) (len:=3) (cs:=[.int .i64 (-1),.int .i64 (-1),.int .i64 (-1)]) (c:=.new) (fz:=0) (off:=0) (n:=ps.l.length) (xc:=ps.l.map (V.int .i64)) zp zp (by refine Zs ?_;exact congrArg (λx=>some (ps.l.length,x)) (Zjs _ _)) hps (Nat.le_refl _) zO,?_⟩;rw[Zov hps];simp -implicitDefEqProofs only[go_sem,seval,List.drop_succ_cons,List.drop_zero];have hn:Z5aa n ps.l={ n with a:=ps.l.getD 0 (-1),b:=ps.l.getD 1 (-1),c:=ps.l.getD 2 (-1) }:=rfl;generalize ps.l.getD 0 (-1)=x0 at hn⊢;generalize ps.l.getD 1 (-1)=x1 at hn⊢;generalize ps.l.getD 2 (-1)=x2 at hn⊢
 refine AW.weak (Zt (λo=>o==1008) (l:=[(0,.ptr 8 g 0),(4,.ptr 1004 g4 0),(7,.slice .new false 1 [.int .i64 x0,.int .i64 x1,.int .i64 x2])])
  (m:=[(8,rdO 1031 [.func (.func 279) [] []] sl g gx r),(1031,ndO gx r.nodes),(1004,.cells .new g4 0 [.int .u8 n.op,.int .i64 n.num,.str n.name,.int .i64 n.a,.int .i64 n.b,.int .i64 n.c])]) ?_ ?_) ?_
 refine Zs ?_;refine⟨Fz.same _,Fz.same _,?_⟩;exact Z4c (f:=V.int .i64) (l:=[x0,x1,x2]) (m:=1) (g:=g8) (fz:=0) (c:=.new) rfl zp (λ_=>rfl);simp only[Zv,Zz,and_true];exact⟨FzO.keep rfl zp,FzO.keep rfl zp,FzO.keep rfl zp⟩
 refine Z4<|Zw ⟨λ_=>.top,λi=>if i=2 then .lend else if i=5 then .lend else if i=8 then .lend else .pure⟩ zk hG zk zk ?_
 refine Zsf @Zva ?_;refine AW.later ?_;refine ZT hG ?_;intro g30;refine Zrs (f:=Zxa) (l:=r.nodes) (l2:=[Z5aa n ps.l]) (g:=gx) Z9d rfl (by rw[hn]<;>rfl) rfl zp (Z5 zo zO) λc2 g2=>?_;refine Zs ?_;refine Z1 ?_;refine AW.ret ?_;refine Zs ?_;refine⟨st [(6,.bool true)] [(8,rdO 1031 [.func (.func 279) [] []] sl g g2 (r.put (Z5aa n ps.l))),(1031,ndO g2 (r.nodes++[Z5aa n ps.l]))],Zt (λ_=>false) ?_ ?_,?_⟩;refine Zs ?_;exact Fz.same _;simp only[Zv,Zz,and_true];exact⟨FzO.keep rfl zp,Zvs (c:=c2) rfl zp⟩;refine Zs ?_;exact Z7a ⟨rfl,g2,zp,zp⟩
theorem Z1s(G:Nat->V)(s:List UInt8):Spec Tryz.prog G 339 [.str s,.str [48]] Zk (λv _=>v=.str (s.dropWhile (· == 48))):=by
 refine Zwd λX cargs _ _ hA=>?_;obtain⟨x,y,rfl,hx,hy⟩:=hA.two;obtain⟨s',rfl,rfl⟩:=hx.str_inv;obtain⟨p',rfl,hp⟩:=hy.str_inv
 obtain rfl:p'=⟨#[48]⟩:=by
  obtain⟨⟨l⟩⟩:=p';simp at hp;rw[hp]
 refine(show Calls Tryz.prog 339 _ _ _ from Any.strings_TrimLeft_one Zw4 s' 48 zd X.w).mono ?_;rintro e w' ⟨rfl,rfl⟩;exact⟨_,_,rfl,RowKit.Below.refl _ _,.str _ _ rfl,by simp[Lib.trimLeftB]⟩
theorem Zgl(G:Nat->V)(hG:GOk G)(sl:Sl Tk)(g:Nat)(r:RS)(hi:r.i<1000000)(hr:r.nodes.length<1000000)(op num:Int)(name:List UInt8)(x y z:Int):
  RdS 1031 [.func (.func 279) [] []] G 322 [Zxa ⟨op,num,name,x,y,z⟩] sl g r (.bool true) (Z5g r op num name).2:=by
 intro gx;refine Zo 1000 15 [.tmp 4] Tryz.func322 λX=>?_
 have hw:IntKind.i64.wrap ((r.i:Int)+1)=((r.i+1:Nat):Int):=by rw[w64 zo zo];omega
 simp only[Zab,Zva,Z5a];refine Z1 ?_;intro g3;refine Z1f hw ?_;refine Z1 ?_;rw[<- Z5a ⟨op,num,name,x,y,z⟩];refine Zca hG (Z7j G hG sl g r.adv hr ⟨op,num,name,x,y,z⟩ .any .nil zd) (gx:=gx) λgx'=>?_;refine Zu ?_;refine Z ?_;exact⟨rfl,gx',zp,zp⟩
theorem Zdo(G:Nat->V)(hE:GExp G)(sl:Sl Tk)(hT:TkOk sl.l)(g:Nat)(r:RS)(hi:r.i<1000000)(w:List UInt8):
  RdS 1031 [.func (.func 279) [] []] G 323 [.str w] sl g r (.bool (Zxi sl.l w r).1) (Zxi sl.l w r).2:=by
 have hG:=hE.ok;intro gx;refine Zo 1000 27 [.tmp 4] Tryz.func323 λX=>?_
 have hw:IntKind.i64.wrap ((r.i:Int)+1)=((r.i+1:Nat):Int):=by rw[w64 zo zo];omega
 refine Z1 ?_;refine Z1 ?_;refine Zca hG (Zfl G hE sl hT g r hi) (gx:=gx) λgx'=>?_;refine Zu ?_;refine Zsf @Zdb ?_;intro g5
 have hP:Zxi sl.l w r=if(Zea sl.l r.i).kind=0\/(Zea sl.l r.i).text≠w then(false,r.err 80)else(true,r.adv):=rfl
 generalize Zea sl.l r.i=t at hP⊢;obtain⟨k,t,p⟩:=t;simp only at hP
 by_cases hk:k=0
 have e1:(k==0)=true:=zu hk;rw[if_pos (.inl hk)]at hP;refine Z1f e1 ?_;refine Zi rfl (λh2=>?_) (λh2=>?_);refine Zf @Zva ?_;rw[hP];exact⟨rfl,gx',zp,zp⟩;cases h2;have e1:(k==0)=false:=zu hk
 by_cases ht:t=w
 have e2:(t==w)=true:=zu ht;rw[if_neg (by rintro(h|h);exact hk h;exact h ht)]at hP;refine Zhc zk ?_;simp -implicitDefEqProofs only[go_sem,seval,e1,bne,e2];refine Zbb rfl ?_;refine Zf (zi @Zva hw) ?_;rw[hP];exact⟨rfl,gx',zp,zp⟩;have e2:(t==w)=false:=zu ht;rw[if_pos (.inr ht)]at hP;refine Zhc zk ?_;simp -implicitDefEqProofs only[go_sem,seval,e1,bne,e2];refine Zi rfl (λh2=>?_) (λh2=>?_);refine Zf @Zva ?_;rw[hP];exact⟨rfl,gx',zp,zp⟩;cases h2
theorem Z3fa(t:List UInt8):(Zrd t).length<=t.length+1:=by
 unfold Zrd
 split
 simp;exact Nat.le_trans ((List.dropWhile_sublist _).length_le) (Nat.le_succ _)
theorem Zxu(G:Nat->V)(hE:GExp G)(sl:Sl Tk)(g:Nat)(r:RS)(hi:r.i<1000000)(hr:r.nodes.length<1000000)(t:List UInt8)(ht:t.length<100000):
  RdS 1031 [.func (.func 279) [] []] G 321 [.str t] sl g r (.bool (Z4d r t).1) (Z4d r t).2:=by
 have hG:=hE.ok;intro gx;refine Zo 1000 26 [.tmp 4] Tryz.func321 λX=>?_;refine Z1 ?_;refine Z1 ?_;refine Zc hG ?_ (s:=(Z1s G t))
 have hT0:Zrd t=if t.dropWhile (· == 48)=[]then[48]else t.dropWhile (· == 48):=rfl
 have hP:Z4d r t=if(Zec (Zrd t)).2≠0 then(false,r.err (Zec (Zrd t)).2)else Z5g r 1 (Zec (Zrd t)).1 []:=rfl
 have hl:=Z3fa t;refine Zda (fun(_:Unit)=>st [(0,.ptr 8 g 0),(1,.str (Zrd t))] [(8,rdO 1031 [.func (.func 279) [] []] sl g gx r),(1031,ndO gx r.nodes)]) (λ_=>True) (λK1 hK1=>?_) ?_;rw[hT0]at hK1;refine Z1 ?_;refine Zi rfl (λh2=>?_) (λh2=>?_);have h2:t.dropWhile (· == 48)=[]:=zu h2;rw[if_pos h2]at hK1;refine Z1 ?_;exact hK1 _ () trivial (Za zp (by simp -implicitDefEqProofs only[go_sem,seval,Zab]));have h2:¬ t.dropWhile (· == 48)=[]:=zu h2;rw[if_neg h2]at hK1;refine Z0 ?_;exact hK1 _ () trivial (Za zp (by simp -implicitDefEqProofs only[go_sem,seval,Zab]));intro _ _;generalize Zrd t=s at hl hP⊢;refine Z1 ?_;refine Zn hG ?_ (s:=(Zl2 G hE.toGNum s zo));generalize Zec s=q at hP⊢;obtain⟨n,e⟩:=q;simp only at hP;refine Zsf @encR.eq_1 ?_;refine Z4 ?_
 by_cases he:e=0
 have e1:(e==0)=true:=zu he;rw[if_neg (show ¬ e≠0 by simpa using he)]at hP;refine Zhc zk ?_;simp -implicitDefEqProofs only[go_sem,seval,bne,e1];refine Zbb rfl ?_;refine Z1 ?_;rw[<- Z5a ⟨1,n,[],0,0,0⟩];refine Zca hG (Zgl G hG sl g r hi hr 1 n [] 0 0 0) (gx:=gx) λgx'=>?_;refine Zu ?_;refine Z ?_;rw[hP];exact⟨rfl,gx',zp,zp⟩;have e1:(e==0)=false:=zu he;rw[if_pos he]at hP;refine Zhc zk ?_;simp -implicitDefEqProofs only[go_sem,seval,bne,e1];refine Zi rfl (λh4=>?_) (λh4=>?_);refine Zf @Zva ?_;rw[hP];exact⟨rfl,gx,zp,zp⟩;cases h4
def Zela(G:Nat->V)(sl:Sl Tk)(g:Nat)(inner:Inner)(i0:Nat):Prop:=
 ∀ n r,1<=n->n<=9->i0<r.i->Zel sl.l r->RdS 1031 [.func (.func 279) [] []] G 279 [.int .i64 n] sl g r (.bool (inner n r).1) (inner n r).2
theorem Zlp{l:List Tk}(hT:TkOk l)(i:Nat):(Zea l i).text.length<100000:=by
 unfold Zea
 split
 rename_i t h
 split
 exact hT.text _ (List.mem_of_getElem? h);exact Nat.zero_lt_succ _;exact Nat.zero_lt_succ _
theorem Zgja(l:List Tk)(w:List UInt8)(r:RS):(Zxi l w r).1=true->(Zxi l w r).2=r.adv:=by
 unfold Zxi
 split
 intro h;cases h;exact λ_=>rfl
def Zlaa(l:List Tk)(inner:Inner):List (List UInt8)->List Int->RS->Bool×RS
 |[],parts,r=>andThen (Zxi l Zjg r) λr4=>(true,r4.put (Z5aa ⟨22,0,[],0,0,0⟩ parts))
 |w::ws,parts,r=>andThen (Zxi l w r) λr1=>andThen (inner 1 r1) λa=>Zlaa l inner ws (parts++[a.last]) a
theorem Zeu(l:List Tk)(inner:Inner)(r:RS):Zyb l inner r=Zlaa l inner [wIf,Zdn,Zen] [] r:=rfl
def brW:List (List UInt8):=[wIf,Zdn,Zen]
theorem Z0q(G:Nat->V)(hE:GExp G)(sl:Sl Tk)(hT:TkOk sl.l)(g:Nat)(r:RS)(hr:Zel sl.l r)(inner:Inner)(hin:Zela G sl g inner r.i)(hb:Bals sl.l inner):
  RdS 1031 [.func (.func 279) [] []] G 324 [] sl g r (.bool (Zyb sl.l inner r).1) (Zyb sl.l inner r).2:=by
 have hG:=hE.ok;have hTl:=hT.len;intro gx;refine Zo 1000 37 [.tmp 2] Tryz.func324 λX=>?_;refine Z1 ?_;refine Z1 ?_;refine Z1 ?_;refine AW.block ?_
 refine Z9 3 (λk (x:Nat×Nat×List Int×RS)=>st [(0,.ptr 8 g 0),(3,grown 1027 x.1 1 x.2.2.1),(6,.agg (brW.map V.str)),(7,.int .i64 k)] [(1027,Zza x.1 (V.int .i64) x.2.2.1),(8,rdO 1031 [.func (.func 279) [] []] sl g x.2.1 x.2.2.2),(1031,ndO x.2.1 x.2.2.2.nodes)])
  (λk x=>Zyb sl.l inner r=Zlaa sl.l inner (brW.drop k) x.2.2.1 x.2.2.2/\Zel sl.l x.2.2.2/\r.i<=x.2.2.2.i/\x.2.2.1.length=k) 0 (0,gx,[],r) (Nat.zero_le _) ⟨Zeu _ _ _,hr,Nat.le_refl _,rfl⟩
  (Za (by simp -implicitDefEqProofs only[go_sem,seval,List.map_cons,List.map_nil];exact⟨rfl,rfl⟩) (by simp -implicitDefEqProofs only[go_sem,seval,Zab];try rfl)) ?_
 rintro k ⟨gp,gy,parts,q⟩ hk ⟨hP,hq,hqi,hpl⟩ L2 hL2;have hP:Zyb sl.l inner r=Zlaa sl.l inner (brW.drop k) parts q:=hP;have hq:Zel sl.l q:=hq;have hqi:r.i<=q.i:=hqi;have hpl:parts.length=k:=hpl
 have hqI:q.i<1000000:=by have:=hq.1;omega
 refine Z1 ?_;refine Z4 ?_;refine Zi rfl (λh4=>?_) (λh4=>?_)
 .have hk1:k<3:=by have h4:decide ((k:Int)<3)=true:=h4;simp at h4;omega
  refine Z0 ?_;refine Z4 ?_;refine AW.block ?_
  obtain⟨w,hw1,hw2⟩:∃ w,(brW.map V.str)[k]?=some (.str w)/\brW.drop k=w::brW.drop (k+1):=by
   have hkl:k<brW.length:=hk1;exact⟨brW[k],by rw[List.getElem?_map,List.getElem?_eq_getElem hkl]<;>rfl,List.drop_eq_getElem_cons hkl⟩
  have hk1':(k:Int)<3:=zo;rw[hw2,Zlaa]at hP;have heb:=Zxe sl.l w q;have het:=Zgja sl.l w q;have hes:=Zdo G hE sl hT g q hqI w;generalize Zxi sl.l w q=y at hP heb hes het;obtain⟨b,q1⟩:=y;simp only at heb hes het;refine Z1f (zi hw1 (zi hk1' (zi @Int.natCast_nonneg @Nat.mul_one))) ?_;refine Z4 ?_
  cases b with
  |false=>
   rw[Zsa]at hP;refine Z1 ?_;refine Zca hG (hes) (gx:=gy) λgz=>?_;refine Zu ?_;refine Zi rfl (λh7=>?_) (λh7=>?_);refine Z ?_;rw[hP];exact⟨rfl,gz,zr,zr⟩;cases h7
  |true=>
   rw[Zla]at hP;have hb1:=heb.2 rfl;have hq1:=hb1.ok hq
   have hlt:r.i<q1.i:=by rw[het rfl];show r.i<q.i+1;omega
   have hc:=hin 1 q1 zd zd hlt hq1;have hb2:=hb 1 q1;generalize inner 1 q1=z at hP hc hb2;obtain⟨b,a⟩:=z;simp only at hc hb2;have ha:=hb2.ok hq1
   have han:a.nodes.length<1000000:=by have:=ha.1;have:=ha.2;omega
   cases b with
   |false=>
    rw[Zsa]at hP;refine Z1f @Zva ?_;refine Zca hG (hes) (gx:=gy) λgz=>?_;refine Zu ?_;refine Zsf @Zva ?_;refine Zca hG (hc) (gx:=gz) λgz2=>?_;refine Zu ?_;refine Zi rfl (λh7=>?_) (λh7=>?_);refine Z ?_;rw[hP];exact⟨rfl,gz2,zr,zr⟩;cases h7
   |true=>
    rw[Zla]at hP;refine Z1f @Zva ?_;refine Zca hG (hes) (gx:=gy) λgz=>?_;refine Zu ?_;refine Zsf @Zva ?_;refine Zca hG (hc) (gx:=gz) λgz2=>?_;refine Zu ?_;refine Zbb rfl ?_;refine Z1 ?_;refine Zca hG (Zbi G hG sl g a han) (gx:=gz2) λgz3=>?_;refine Zu ?_;intro g26;refine Zna (f:=V.int .i64) (l:=parts) (l2:=[a.last]) (g:=gp) (λ_=>rfl) rfl rfl rfl zp (Z5 zo zO) λg27=>?_;refine Zs ?_;refine Z1 ?_;refine hL2 _ ⟨hk1,(g27,gz3,parts++[a.last],a),⟨hP,ha,?_,?_⟩,Za zw zp⟩
    show r.i<=a.i
    have:=hb2.up;omega
    show(parts++[a.last]).length=k+1
    rw[List.length_append,List.length_singleton,hpl]
 .have hk1:k=3:=by have h4:decide ((k:Int)<3)=false:=h4;simp at h4;omega
  refine Z0 ?_;rw[hk1,show brW.drop 3=[]from rfl,Zlaa]at hP;have heb:=Zxe sl.l Zjg q;have hes:=Zdo G hE sl hT g q hqI Zjg;generalize Zxi sl.l Zjg q=y at hP heb hes;obtain⟨b,q1⟩:=y;simp only at heb hes;have hq1:=(heb.1).ok hq
  have hqn:q1.nodes.length<1000000:=by have:=hq1.1;have:=hq1.2;omega
  cases b with
  |false=>
   rw[Zsa]at hP;refine Z1 ?_;refine Zca hG (hes) (gx:=gy) λgz=>?_;refine Zu ?_;refine Z ?_;rw[hP];exact⟨rfl,gz,zr,zr⟩
  |true=>
   rw[Zla]at hP;refine Z1 ?_;refine Zca hG (hes) (gx:=gy) λgz=>?_;refine Zu ?_;refine Zad (λo=>o==1027) [.ptr 8 g 0,Zxa ⟨22,0,[],0,0,0⟩,Zb .new 1 (V.int .i64) (Zl parts)] [(8,rdO 1031 [.func (.func 279) [] []] sl g gz q1),(1031,ndO gz q1.nodes)] ⟨Fz.same _,Fz.same _,?_,trivial⟩ ?_ ?_;exact Z3a (g:=gp) rfl zp (λ_=>rfl);simp only[Zv,Zz,and_true];exact⟨FzO.keep rfl zp,FzO.keep rfl zp⟩
   have hp3:(Zl parts).l.length<=3:=by rw[Zm];omega
   refine Zca hG (Z7j G hG sl g q1 hqn ⟨22,0,[],0,0,0⟩ .old (Zl parts) hp3) (gx:=gz) λgz2=>?_;refine Zu ?_;refine Z ?_;rw[hP];exact⟨rfl,gz2,zr,zr⟩
theorem Zc1(G:Nat->V)(hE:GExp G)(sl:Sl Tk)(hT:TkOk sl.l)(g:Nat)(r:RS)(hr:Zel sl.l r)(inner:Inner)(hin:Zela G sl g inner r.i)(hb:Bals sl.l inner):
  RdS 1031 [.func (.func 279) [] []] G 296 [] sl g r (.bool (Z1d sl.l inner r).1) (Z1d sl.l inner r).2:=by
 have hG:=hE.ok;have hTl:=hT.len
 have hri:r.i<1000000:=by have:=hr.1;omega
 have hrn:r.nodes.length<1000000:=by have:=hr.2;omega
 have hw:IntKind.i64.wrap ((r.i:Int)+1)=((r.i+1:Nat):Int):=by rw[w64 zo zo];omega
 intro gx;refine Zo 1000 107 [.tmp 2] Tryz.func296 λX=>?_
 have hP:Z1d sl.l inner r=if(Zea sl.l r.i).kind=1 then Z4d r (Zea sl.l r.i).text
  else if(Zea sl.l r.i).kind=2 then Z5g r 2 0 (Zea sl.l r.i).text
  else if(Zea sl.l r.i).kind=0 then(false,r.err 80)
  else if(ofP (Zea sl.l r.i).text 1).2 then andThen (inner 9 r.adv) λa=>(true,a.put ⟨(ofP (Zea sl.l r.i).text 1).1,0,[],a.last,-1,-1⟩)
  else if(Zea sl.l r.i).text=[40]then andThen (inner 1 r.adv) (Zxi sl.l [41])
  else if(Zea sl.l r.i).text=wIf then Zyb sl.l inner r
  else if(ofP (Zea sl.l r.i).text 0).2/\(Zea sl.l r.i).kind=3 then Z5g r (ofP (Zea sl.l r.i).text 0).1 0 []
  else(false,r.err 80):=rfl
 have htl:=Zlp hT r.i;have hadv:(Zea sl.l r.i).kind≠0->Zel sl.l r.adv:=λh=>(Bal.adv (Zrk h)).ok hr
 have hno0:(Zea sl.l r.i).kind=0->(ofP (Zea sl.l r.i).text 0).2=false:=λh=>by
  unfold ofP
  cases ho:ofI (Zea sl.l r.i).text 0 with
  |none=>rfl
  |some i=>
   have hk:=Zsi sl.l r.i;rw[h]at hk
   rcases Zv8 ho with ⟨h,_⟩|⟨h,_⟩
   rw[h]at hk;exact absurd hk zd;rw[h]at hk;exact absurd hk zd
 refine Z1 ?_;refine Z1 ?_;refine Zca hG (Zfl G hE sl hT g r hri) (gx:=gx) λgx1=>?_;refine Zu ?_;refine Zsf @Zdb ?_;intro g3;generalize Zea sl.l r.i=t at hP htl hadv hno0⊢;obtain⟨k,t,p⟩:=t;simp only at hP htl hadv hno0;refine Z1 ?_;refine Zn hG ?_ (s:=(Zxs G hG t 1));generalize ofP t 1=o1 at hP⊢;obtain⟨op1,one⟩:=o1;simp only at hP;refine Zsf @encOf.eq_1 ?_
 refine Zda (fun(_:Unit)=>st [(0,.ptr 8 g 0),(3,.ptr 1003 g3 0)] [(1003,.cells .new g3 0 [.int .u8 k,.str t,.int .i64 p]),(8,rdO 1031 [.func (.func 279) [] []] sl g gx1 r),(1031,ndO gx1 r.nodes)])
  (λ_=>(k=0\/(k≠0/\k≠1/\k≠2/\one=false/\t≠[40]/\t≠wIf))) (λK1 hK1=>?_) ?_
 .refine AW.block ?_
  by_cases k1:k=1
  have e1:(k==1)=true:=zu k1;rw[if_pos k1]at hP;refine Z1f e1 ?_;refine Zi rfl (λh2=>?_) (λh2=>?_);refine Z1 ?_;refine Zca hG (Zxu G hE sl g r hri hrn t htl) (gx:=gx1) λgx2=>?_;refine Zu ?_;refine Z ?_;rw[hP];exact⟨rfl,gx2,zr,zr⟩;cases h2;have e1:(k==1)=false:=zu k1;rw[if_neg k1]at hP;refine Z1f e1 ?_;refine Zbb rfl ?_
  try clear h2
  by_cases k2:k=2
  have e2:(k==2)=true:=zu k2;rw[if_pos k2]at hP;refine Z1f e2 ?_;refine Zi rfl (λh2=>?_) (λh2=>?_);refine Z1 ?_;rw[<- Z5a ⟨2,0,t,0,0,0⟩];refine Zca hG (Zgl G hG sl g r hri hrn 2 0 t 0 0 0) (gx:=gx1) λgx2=>?_;refine Zu ?_;refine Z ?_;rw[hP];exact⟨rfl,gx2,zr,zr⟩;cases h2;have e2:(k==2)=false:=zu k2;rw[if_neg k2]at hP;refine Z1f e2 ?_;refine Zbb rfl ?_
  try clear h2
  by_cases k0:k=0
  have e0:(k==0)=true:=zu k0;refine Z1f e0 ?_;refine Zi rfl (λh2=>?_) (λh2=>?_);refine Z0 ?_;exact hK1 _ () (.inl k0) (Za zp zp);cases h2;have e0:(k==0)=false:=zu k0;rw[if_neg k0]at hP;have had:=hadv k0;refine Z1f e0 ?_;refine Zbb rfl ?_
  try clear h2
  refine Z1 ?_;refine Zi rfl (λh3=>?_) (λh3=>?_)
  .subst h3
   rw[if_pos rfl]at hP;have hc:=hin 9 r.adv zd zd (Nat.lt_succ_self _) had;have hbl:=(hb 9 r.adv).ok had;generalize inner 9 r.adv=x at hc hP hbl;obtain⟨b,a⟩:=x;simp only at hc hbl
   have han:a.nodes.length<1000000:=by have:=hbl.1;have:=hbl.2;omega
   refine Z1f (zi @Zva hw) ?_
   cases b with
   |false=>
    refine Z1f @Zva ?_;refine Zca hG (hc) (gx:=gx1) λgx2=>?_;refine Zu ?_;refine Z ?_;rw[hP];exact⟨rfl,gx2,zr,zr⟩
   |true=>
    refine Z1f @Zva ?_;refine Zca hG (hc) (gx:=gx1) λgx2=>?_;refine Zu ?_;refine Zca hG (Zbi G hG sl g a han) (gx:=gx2) λgx3=>?_;refine Zu ?_;intro g58;refine Zad (λo=>o==1058) [.ptr 8 g 0,Zxa ⟨op1,0,[],0,0,0⟩,.slice .new false 1 [.int .i64 a.last]] [(8,rdO 1031 [.func (.func 279) [] []] sl g gx3 a),(1031,ndO gx3 a.nodes)] ⟨Fz.same _,Fz.same _,?_,trivial⟩ ?_ ?_;exact Z4c (f:=V.int .i64) (l:=[a.last]) (m:=1) (g:=g58) (fz:=0) (c:=.new) rfl zp (λ_=>rfl);simp only[Zv,Zz,and_true];exact⟨FzO.keep rfl zp,FzO.keep rfl zp⟩;refine Zca hG (Z7j G hG sl g a han ⟨op1,0,[],0,0,0⟩ .old (.mk false [a.last]) (Nat.le_of_ble_eq_true rfl)) (gx:=gx3) λgx4=>?_;refine Zu ?_;refine Z ?_;rw[hP];exact⟨rfl,gx4,zr,zr⟩
  subst h3;rw[if_neg zS]at hP;refine Z1 ?_;refine Zi rfl (λh4=>?_) (λh4=>?_)
  .have h4:t=[40]:=zu h4
   rw[if_pos h4]at hP;have hc:=hin 1 r.adv zd zd (Nat.lt_succ_self _) had;have hbl:=(hb 1 r.adv).ok had;generalize inner 1 r.adv=x at hc hP hbl;obtain⟨b,a⟩:=x;simp only at hc hbl
   have hai:a.i<1000000:=by have:=hbl.1;omega
   refine Z1f (zi @Zva hw) ?_
   cases b with
   |false=>
    refine Z1f @Zva ?_;refine Zca hG (hc) (gx:=gx1) λgx2=>?_;refine Zu ?_;refine Z ?_;rw[hP];exact⟨rfl,gx2,zr,zr⟩
   |true=>
    rw[Zla]at hP;refine Z1f @Zva ?_;refine Zca hG (hc) (gx:=gx1) λgx2=>?_;refine Zu ?_;refine Zca hG (Zdo G hE sl hT g a hai [41]) (gx:=gx2) λgx3=>?_;refine Zu ?_;generalize Zxi sl.l [41] a=y at hP⊢;obtain⟨b,a2⟩:=y
    cases b with
    |true=>
     refine Zs ?_;refine Z ?_;rw[hP];exact⟨rfl,gx3,zr,zr⟩
    |false=>
     refine Zs ?_;refine Z ?_;rw[hP];exact⟨rfl,gx3,zr,zr⟩
  have h4:¬ t=[40]:=zu h4;rw[if_neg h4]at hP;refine Z1 ?_;refine Zi rfl (λh5=>?_) (λh5=>?_)
  have h5:t=wIf:=by
   have h5:(t==[105,102])=true:=h5;exact eq_of_beq h5
  rw[if_pos h5]at hP;refine Z1 ?_;refine Zca hG (Z0q G hE sl hT g r hr inner hin hb) (gx:=gx1) λgx2=>?_;refine Zu ?_;refine Z ?_;rw[hP];exact⟨rfl,gx2,zr,zr⟩
  have h5:¬ t=wIf:=by
   have h5:(t==[105,102])=false:=h5;exact beq_eq_false_iff_ne.1 h5
  refine Z0 ?_;exact hK1 _ () (.inr ⟨k0,k1,k2,rfl,h4,h5⟩) (Za zp zp)
 rintro _ hcase
 have hP2:Z1d sl.l inner r=if(ofP t 0).2/\k=3 then Z5g r (ofP t 0).1 0 []else(false,r.err 80):=by
  rw[hP]
  rcases hcase with k0|⟨k0,k1,k2,k3,k4,k5⟩
  have:=hno0 k0;subst k0;rw[if_neg zd,if_neg zd,if_pos rfl,this,if_neg zS];rw[if_neg k1,if_neg k2,if_neg k0,k3,if_neg zS,if_neg k4,if_neg k5]
 try clear hP
 have hP:=hP2
 try clear hP2 hno0 hcase
 refine Z1 ?_;refine Zn hG ?_ (s:=(Zxs G hG t 0));generalize ofP t 0=o0 at hP⊢;obtain⟨op0,ok⟩:=o0;simp only at hP;refine Zsf @encOf.eq_1 ?_
 cases ok with
 |false=>
  rw[if_neg zS]at hP;refine Z1 ?_;refine Zbb rfl ?_;refine Zf @Zva ?_;rw[hP];exact⟨rfl,gx1,zr,zr⟩
 |true=>
  by_cases k3:k=3
  have e3:(k==3)=true:=zu k3;rw[if_pos ⟨rfl,k3⟩]at hP;refine Z1f e3 ?_;refine Zi rfl (λh7=>?_) (λh7=>?_);refine Z1 ?_;rw[<- Z5a ⟨op0,0,[],0,0,0⟩];refine Zca hG (Zgl G hG sl g r hri hrn op0 0 [] 0 0 0) (gx:=gx1) λgx2=>?_;refine Zu ?_;refine Z ?_;rw[hP];exact⟨rfl,gx2,zr,zr⟩;cases h7;have e3:(k==3)=false:=zu k3;rw[if_neg (λh=>k3 h.2)]at hP;refine Z1f e3 ?_;refine Zbb rfl ?_;refine Zf @Zva ?_;rw[hP];exact⟨rfl,gx1,zr,zr⟩
theorem Zvba(l:List Tk)(inner:Inner)(n:Int)(m:Nat)(r:RS):Z6d l inner n (m+1) r=match Zxm l r.i with
  |none=>(true,r)
  |some op=>if lvl op<n then(true,r)else andThen (inner (lvl op+1) r.adv) λa=>Z6d l inner n m (a.put ⟨op,0,[],r.last,a.last,-1⟩):=rfl
theorem Zdna{l:List Tk}{i:Nat}:((Zea l i).kind=0\/(ofP (Zea l i).text 2).2=false->Zxm l i=none)/\((Zea l i).kind≠0->(ofP (Zea l i).text 2).2=true->Zxm l i=some (ofP (Zea l i).text 2).1):=by
 unfold Zxm ofP
 constructor
 rintro(h|h);rw[if_pos h]
 split
 rfl
 .cases ho:ofI (Zea l i).text 2 with
  |none=>rfl
  |some op=>rw[ho]at h;cases h
 .intro h h2
  rw[if_neg h]
  cases ho:ofI (Zea l i).text 2 with
  |none=>rw[ho]at h2;cases h2
  |some op=>rfl
theorem ofP_lt(t:List UInt8)(p:Int):(ofP t p).1<23:=by
 unfold ofP
 split
 rename_i h;exact Z9oa h
 decide
theorem Zb1(G:Nat->V)(hE:GExp G)(sl:Sl Tk)(hT:TkOk sl.l)(g:Nat):∀ (f:Nat) (n:Int) (r:RS),1<=n->n<=9->sl.l.length<f+r.i->Zel sl.l r ->
  RdS 1031 [.func (.func 279) [] []] G 279 [.int .i64 n] sl g r (.bool (Zga sl.l f n r).1) (Zga sl.l f n r).2:=by
 have hG:=hE.ok;have hTl:=hT.len;intro f
 induction f with
 |zero=>intro n r _ _ hf hr;have:=hr.1;omega
 |succ f ih=>
 intro n r hn1 hn9 hf hr gx;have hin:∀ i0,r.i<=i0->Zela G sl g (Zga sl.l f) i0:=λi0 hi0 n' r' h1 h9 hi hr'=>ih n' r' h1 h9 zo hr';have hbs:=Z4b sl.l f;have hP:Zga sl.l (f+1) n r=andThen (Z1d sl.l (Zga sl.l f) r) (Z6d sl.l (Zga sl.l f) n (sl.l.length+1)):=rfl;generalize Zga sl.l (f+1) n r=res at hP⊢;refine Zo 1000 65 [.tmp 4] Tryz.func279 λX=>?_;have hah:=Zc1 G hE sl hT g r hr _ (hin r.i (Nat.le_refl _)) hbs;have hab:=Z0i hbs r;generalize Z1d sl.l (Zga sl.l f) r=y at hP hah hab;obtain⟨b,q0⟩:=y;simp only at hah hab;refine Z1 ?_;refine Z4 ?_
 cases b with
 |false=>
  rw[Zsa]at hP;refine Z1 ?_;refine Zca hG (hah) (gx:=gx) λgx1=>?_;refine Zu ?_;refine Zi rfl (λh2=>?_) (λh2=>?_);refine Z ?_;rw[hP];exact⟨rfl,gx1,zr,zr⟩;cases h2
 |true=>
 rw[Zla]at hP;have hq0:=hab.ok hr;refine Z1 ?_;refine Zca hG (hah) (gx:=gx) λgx1=>?_;refine Zu ?_;refine Z1 ?_;refine Zn hG ?_ (s:=(Zij G hG));refine Zsf (zi @Zi1 (zi @Z3s @Nat.le_refl)) ?_;intro g5;rw[Zuo _ ?hl]
 case hl=>rfl
 refine AW.block ?_
 refine Zpb (fun(x:Nat×Nat×RS)=>st [(0,.ptr 8 g 0),(1,.int .i64 n),(5,.ptr 1005 g5 0)] [(1005,.cells .new g5 0 tabC),(8,rdO 1031 [.func (.func 279) [] []] sl g x.1 x.2.2),(1031,ndO x.1 x.2.2.nodes)])
  (λx=>res=Z6d sl.l (Zga sl.l f) n x.2.1 x.2.2/\Zel sl.l x.2.2/\r.i<=x.2.2.i/\sl.l.length<x.2.1+x.2.2.i) (λx=>x.2.1) (gx1,sl.l.length+1,q0) ⟨hP,hq0,hab.up,Nat.lt_add_right _ (Nat.lt_succ_self _)⟩
  (Za zp zp) ?_
 try clear hP
 rintro⟨gy,m,q⟩ ⟨hP,hq,hqi,hm⟩ L3 hL3
 replace hP:res=Z6d sl.l (Zga sl.l f) n m q:=hP
 replace hq:Zel sl.l q:=hq
 replace hqi:r.i<=q.i:=hqi
 replace hm:sl.l.length<m+q.i:=hm
 obtain⟨m,rfl⟩:∃ m',m=m'+1:=⟨m-1,by have:=hq.1;omega⟩
 have hqI:q.i<1000000:=by have:=hq.1;omega
 have hqn:q.nodes.length<1000000:=by have:=hq.1;have:=hq.2;omega
 rw[Zvba]at hP;have hop:=Zdna (l:=sl.l) (i:=q.i);have hlt23:=ofP_lt (Zea sl.l q.i).text 2;have htl:=Zlp hT q.i
 have hbnd:∀ op,Zxm sl.l q.i=some op->1<=lvl op/\lvl op<=8:=λop h=>by have:=Zlha h;exact⟨this.2.2.1,this.2.2.2⟩
 have hilt:∀ op,Zxm sl.l q.i=some op->q.i<sl.l.length:=λop h=>Zxl h;refine Z1 ?_;refine Zca hG (Zfl G hE sl hT g q hqI) (gx:=gy) λgz=>?_;refine Zu ?_;refine Zsf @Zdb ?_;intro g6;generalize Zxm sl.l q.i=oa at hP hop hbnd hilt;generalize Zea sl.l q.i=t at hop hlt23 htl⊢;obtain⟨k,t,p⟩:=t;simp only at hop hlt23 htl;refine Z1 ?_;refine Zn hG ?_ (s:=(Zxs G hG t 2));generalize ofP t 2=o2 at hop hlt23⊢;obtain⟨op,ok⟩:=o2;simp only at hop hlt23;refine Zsf @encOf.eq_1 ?_;have hlv:=Z0la op hlt23;have hi23:(op:Int)<23:=zo;refine Z1f (zi hi23 (zi @Int.natCast_nonneg (zi hlv @Nat.zero_add))) ?_;refine Z4 ?_
 cases ok with
 |false=>
  rw[hop.1 (.inr rfl)]at hP;refine Z1 ?_;refine Zi rfl (λh9=>?_) (λh9=>?_);refine Z ?_;rw[hP];exact⟨rfl,gz,zr,zr⟩;cases h9
 |true=>
 by_cases hk:k=0
 have e1:(k==0)=true:=zu hk;rw[hop.1 (.inl hk)]at hP;refine Z1f e1 ?_;refine Zi rfl (λh9=>?_) (λh9=>?_);refine Z ?_;rw[hP];exact⟨rfl,gz,zr,zr⟩;cases h9;have e1:(k==0)=false:=zu hk;have hoa:=hop.2 hk rfl;rw[hoa]at hP;simp only at hP;obtain⟨hl1,hl8⟩:=hbnd op hoa;have hil:=hilt op hoa;generalize lvl op=lv at hP hl1 hl8⊢
 by_cases hlt:lv<n
 have e2:decide (lv<n)=true:=zu hlt;rw[if_pos hlt]at hP;refine Z1f (zi e1 e2) ?_;refine Zi rfl (λh9=>?_) (λh9=>?_);refine Z ?_;rw[hP];exact⟨rfl,gz,zr,zr⟩;cases h9;have e2:decide (lv<n)=false:=zu hlt;rw[if_neg hlt]at hP;refine Z1f (zi e1 e2) ?_;refine Z0 ?_
 have hw:IntKind.i64.wrap ((q.i:Int)+1)=((q.i+1:Nat):Int):=by rw[w64 zo zo];omega
 have hw2:IntKind.i64.wrap (lv+1)=lv+1:=w64 zo zo;have hadv:Zel sl.l q.adv:=(Bal.adv hil).ok hq;have hc:=ih (lv+1) q.adv zo zo (by show sl.l.length<f+(q.i+1);omega) hadv;have hcb:=hbs (lv+1) q.adv;generalize Zga sl.l f (lv+1) q.adv=z at hP hc hcb;obtain⟨b,a⟩:=z;simp only at hc hcb;have ha:=hcb.ok hadv;have haup:q.i+1<=a.i:=hcb.up
 have han:a.nodes.length<1000000:=by have:=ha.1;have:=ha.2;omega
 refine Z1 ?_;refine Zca hG (Zbi G hG sl g q hqn) (gx:=gz) λgz1=>?_;refine Zu ?_;refine Z1f (zi @Zva hw) ?_;refine Z4 ?_
 cases b with
 |false=>
  rw[Zsa]at hP;refine Z1f (zi @Zva hw2) ?_;refine Zca hG (hc) (gx:=gz1) λgz2=>?_;refine Zu ?_;refine Zi rfl (λh11=>?_) (λh11=>?_);refine Z ?_;rw[hP];exact⟨rfl,gz2,zr,zr⟩;cases h11
 |true=>
  rw[Zla]at hP;refine Z1f (zi @Zva hw2) ?_;refine Zca hG (hc) (gx:=gz1) λgz2=>?_;refine Zu ?_;refine Z1 ?_;refine Zca hG (Zbi G hG sl g a han) (gx:=gz2) λgz3=>?_;refine Zu ?_;intro g63;refine Zad (λo=>o==1063) [.ptr 8 g 0,Zxa ⟨op,0,[],0,0,0⟩,.slice .new false 1 [.int .i64 q.last,.int .i64 a.last]] [(8,rdO 1031 [.func (.func 279) [] []] sl g gz3 a),(1031,ndO gz3 a.nodes),(1005,.cells .new g5 0 tabC)] ⟨Fz.same _,Fz.same _,?_,trivial⟩ ?_ ?_;exact Z4c (f:=V.int .i64) (l:=[q.last,a.last]) (m:=1) (g:=g63) (fz:=0) (c:=.new) rfl zp (λ_=>rfl);simp only[Zv,Zz,and_true];exact⟨FzO.keep rfl zp,FzO.keep rfl zp,FzO.keep rfl zp⟩;refine Zca hG (Z7j G hG sl g a han ⟨op,0,[],0,0,0⟩ .old (.mk false [q.last,a.last]) (Nat.le_of_ble_eq_true rfl)) (gx:=gz3) λgz4=>?_;refine Zu ?_
  have hres:Zel sl.l (a.put ⟨op,0,[],q.last,a.last,-1⟩):=⟨ha.1,by
   have h1:=hcb.cnt;have h2:=hq.2
   show(a.nodes++[_]).length<=a.i
   rw[List.length_append,List.length_singleton];have h3:a.nodes.length+(q.i+1)+0<=q.nodes.length+a.i:=h1
   omega⟩
  refine hL3 _ ⟨(gz4,m,a.put ⟨op,0,[],q.last,a.last,-1⟩),Nat.lt_succ_self _,⟨hP,hres,?_,?_⟩,Za zp (by refine Zs ?_;exact⟨rfl,rfl⟩)⟩
  show r.i<=a.i
  omega
  show sl.l.length<m+a.i
  omega
end Go.Hs
end

section
namespace Go.Hs
def Z9a(rec:Int->Int)(has:Bool)(place last:Int):Option Int:=
 if has=false then(if place ≠ -1 then none else some last)
 else if place≠last then none else if rec last<0 then none else some (rec last-1)
def Zjw(l:List XN)(i:Int):Option XN:=if i<0 then none else l[i.toNat]?
def Zeh(l:List XN):Nat->Int->Int
 |0,_ => -1
 |f+1,i=>match Zjw l i with
  |none => -1
  |some n=>bif Zqd n then
   match Z9a (Zeh l f) (Nat.blt 2 (Zy n.op)) n.c (i-1)with
   |none => -1
   |some l2=>match Z9a (Zeh l f) (Nat.blt 1 (Zy n.op)) n.b l2 with
    |none => -1
    |some l1=>match Z9a (Zeh l f) (Nat.blt 0 (Zy n.op)) n.a l1 with
     |none => -1
     |some l0=>l0+1
   else -1
theorem Z2ja(l:List XN):∀ f i,-1<=Zeh l f i
 |0,_=>by simp[Zeh]
 |f+1,i=>by
  have ih:=Z2ja l f
  have hs:∀ has place last q,Z9a (Zeh l f) has place last=some q->q=last \/ -1<=q:=by
   intro has place last q h;unfold Z9a at h
   split at h
   split at h
   cases h;cases h;exact .inl rfl
   split at h
   cases h
   split at h
   cases h;cases h;right;omega
  rw[Zeh]
  cases hn:Zjw l i with
  |none=>simp
  |some n=>
   simp only
   have hi:0<=i:=by unfold Zjw at hn;split at hn;cases hn;omega
   cases Zqd n with
   |false=>simp
   |true=>
    simp only[cond_true]
    cases h2:Z9a (Zeh l f) (Nat.blt 2 (Zy n.op)) n.c (i-1)with
    |none=>simp
    |some l2=>
     simp only
     cases h1:Z9a (Zeh l f) (Nat.blt 1 (Zy n.op)) n.b l2 with
     |none=>simp
     |some l1=>
      simp only
      cases h0:Z9a (Zeh l f) (Nat.blt 0 (Zy n.op)) n.a l1 with
      |none=>simp
      |some l0=>
       simp only;have a2:=hs _ _ _ _ h2;have a1:=hs _ _ _ _ h1;have a0:=hs _ _ _ _ h0;omega
def At(l:List XN)(x:X)(b:Nat):Prop:=∃ pre post,l=pre++x.row b++post/\pre.length=b
theorem X.row_top:∀ (x:X) (k:Int),∃ body,x.row k=body++[x.top k]/\body.length+1=x.size
 |.leaf op num name,k=>⟨[],rfl,rfl⟩
 |.un op a,k=>⟨a.row k,rfl,by rw[X.row_len];rfl⟩
 |.bin op a b,k=>⟨a.row k++b.row (k+a.size),rfl,by rw[List.length_append,X.row_len,X.row_len];rfl⟩
 |.ite a b c,k=>⟨a.row k++b.row (k+a.size)++c.row (k+a.size+b.size),rfl,by rw[List.length_append,List.length_append,X.row_len,X.row_len,X.row_len];rfl⟩
theorem At.top{l:List XN}{x:X}{b:Nat}(h:At l x b):Zjw l ((b:Int)+x.size-1)=some (x.top b):=by
 obtain⟨pre,post,rfl,hb⟩:=h;obtain⟨body,h1,h2⟩:=x.row_top b;unfold Zjw;rw[if_neg (by omega)]
 have:((b:Int)+x.size-1).toNat=(pre++body).length:=by rw[List.length_append];omega
 rw[this,h1,show pre++(body++[x.top b])++post=(pre++body)++(x.top b::post) by simp];rw[List.getElem?_append_right (Nat.le_refl _)];simp
theorem At.get{l:List XN}{x:X}{b:Nat}(h:At l x b):l[b+x.size-1]?=some (x.top b):=by
 have:=h.top;unfold Zjw at this;have hp:=x.size_pos;rw[if_neg (by omega)]at this;rw[<- this];congr 1;omega
theorem At.un{l:List XN}{op:Int}{a:X}{b:Nat}(h:At l (.un op a) b):At l a b:=by
 obtain⟨pre,post,rfl,hb⟩:=h;exact⟨pre,_,by simp only[X.row,List.append_assoc];rfl,hb⟩
theorem At.bin{l:List XN}{op:Int}{x y:X}{b:Nat}(h:At l (.bin op x y) b):At l x b/\At l y (b+x.size):=by
 obtain⟨pre,post,rfl,hb⟩:=h;refine⟨⟨pre,y.row (b+x.size)++[X.top (.bin op x y) b]++post,by simp only[X.row,List.append_assoc];rfl,hb⟩,⟨pre++x.row b,[X.top (.bin op x y) b]++post,?_,by rw[List.length_append,X.row_len,hb]⟩⟩;simp only[X.row,List.append_assoc];rfl
theorem At.ite{l:List XN}{x y z:X}{b:Nat}(h:At l (.ite x y z) b):At l x b/\At l y (b+x.size)/\At l z (b+x.size+y.size):=by
 obtain⟨pre,post,rfl,hb⟩:=h;refine⟨⟨pre,y.row (b+x.size)++z.row (b+x.size+y.size)++[X.top (.ite x y z) b]++post,by simp only[X.row,List.append_assoc];rfl,hb⟩,⟨pre++x.row b,z.row (b+x.size+y.size)++[X.top (.ite x y z) b]++post,?_,by rw[List.length_append,X.row_len,hb]⟩,⟨pre++x.row b++y.row (b+x.size),[X.top (.ite x y z) b]++post,?_,by rw[List.length_append,List.length_append,X.row_len,X.row_len,hb]⟩⟩;simp only[X.row,List.append_assoc];rfl;simp only[X.row,List.append_assoc];rfl
theorem Zdm(rec:Int->Int)(last:Int):Z9a rec false (-1) last=some last:=rfl
theorem Zae{rec:Int->Int}{last:Int}(h:0<=rec last):Z9a rec true last last=some (rec last-1):=by
 unfold Z9a;rw[if_neg (by simp),if_neg (by simp),if_neg (by omega)]
theorem Z1j:∀ (x:X) (l:List XN) (b f:Nat),x.ok=true->At l x b->x.size<=f->Zeh l f ((b:Int)+x.size-1)=b
 |.leaf op num name,l,b,f,hok,h,hf=>by
  unfold X.ok at hok;simp only[Bool.and_eq_true,decide_eq_true_eq]at hok;obtain⟨f,rfl⟩:∃ f',f=f'+1:=⟨f-1,by simp only[X.size]at hf;omega⟩;rw[Zeh,h.top];simp only[X.top]
  have hp:Zy op=0:=by unfold Zy;rw[if_pos hok.2]
  rw[hok.1,hp,cond_true];simp only[show Nat.blt 2 0=false from rfl,show Nat.blt 1 0=false from rfl,show Nat.blt 0 0=false from rfl,Zdm,X.size];omega
 |.un op a,l,b,f,hok,h,hf=>by
  unfold X.ok at hok;simp only[Bool.and_eq_true,decide_eq_true_eq]at hok;simp only[X.size]at hf;obtain⟨f,rfl⟩:∃ f',f=f'+1:=⟨f-1,by omega⟩;have ia:=Z1j a l b f hok.2 h.un (by omega);rw[Zeh,h.top];simp only[X.top]
  have hp:Zy op=1:=by unfold Zy;rw[if_neg (by omega),if_pos (by omega)]
  rw[Zvg (by omega),hp,cond_true]
  have e:(b:Int)+(X.un op a).size-1-1=b+a.size-1:=by simp only[X.size];omega
  simp only[show Nat.blt 2 1=false from rfl,show Nat.blt 1 1=false from rfl,show Nat.blt 0 1=true from rfl,Zdm,e];rw[Zae (by rw[ia];omega),ia];simp
 |.bin op x y,l,b,f,hok,h,hf=>by
  unfold X.ok at hok;simp only[Bool.and_eq_true,decide_eq_true_eq]at hok;simp only[X.size]at hf;obtain⟨f,rfl⟩:∃ f',f=f'+1:=⟨f-1,by omega⟩;have ix:=Z1j x l b f hok.1.2 h.bin.1 (by omega);have iy:=Z1j y l (b+x.size) f hok.2 h.bin.2 (by omega);rw[Zeh,h.top];simp only[X.top]
  have hp:Zy op=2:=by unfold Zy;rw[if_neg (by omega),if_neg (by omega),if_pos (by omega)]
  rw[Zvg (by omega),hp,cond_true]
  have e:(b:Int)+(X.bin op x y).size-1-1=b+x.size+y.size-1:=by simp only[X.size];omega
  have ey:((b+x.size:Nat):Int)=b+x.size:=by omega
  rw[ey]at iy;simp only[show Nat.blt 2 2=false from rfl,show Nat.blt 1 2=true from rfl,show Nat.blt 0 2=true from rfl,Zdm,e];rw[Zae (by rw[iy];omega),iy];simp only;rw[Zae (by rw[ix];omega),ix];simp
 |.ite x y z,l,b,f,hok,h,hf=>by
  unfold X.ok at hok;simp only[Bool.and_eq_true]at hok;simp only[X.size]at hf;obtain⟨f,rfl⟩:∃ f',f=f'+1:=⟨f-1,by omega⟩;have ix:=Z1j x l b f hok.1.1 h.ite.1 (by omega);have iy:=Z1j y l (b+x.size) f hok.1.2 h.ite.2.1 (by omega);have iz:=Z1j z l (b+x.size+y.size) f hok.2 h.ite.2.2 (by omega);rw[Zeh,h.top];simp only[X.top];rw[Zvg (by omega),show Zy 22=3 from rfl,cond_true]
  have e:(b:Int)+(X.ite x y z).size-1-1=b+x.size+y.size+z.size-1:=by simp only[X.size];omega
  have ey:((b+x.size:Nat):Int)=b+x.size:=by omega
  have ez:((b+x.size+y.size:Nat):Int)=b+x.size+y.size:=by omega
  rw[ey]at iy;rw[ez]at iz;simp only[show Nat.blt 2 3=true from rfl,show Nat.blt 1 3=true from rfl,show Nat.blt 0 3=true from rfl,e];rw[Zae (by rw[iz];omega),iz];simp only;rw[Zae (by rw[iy];omega),iy];simp only;rw[Zae (by rw[ix];omega),ix];simp
theorem Zsb{rec:Int->Int}{has:Bool}{place last q:Int}(h:Z9a rec has place last=some q):has=false/\place = -1/\q=last\/has=true/\place=last/\0<=rec last/\q=rec last-1:=by
 unfold Z9a at h
 split at h
 rename_i h1
 split at h
 cases h;rename_i h2;cases h;exact .inl ⟨h1,by simpa using h2,rfl⟩;rename_i h1
 split at h
 cases h;rename_i h2
 split at h
 cases h;rename_i h3;cases h;exact .inr ⟨by simpa using h1,by simpa using h2,by omega,rfl⟩
theorem At.glue{l:List XN}{x:X}{b:Nat}(h:At l x b):∃ pre,l.take (b+x.size)=pre++x.row b/\pre.length=b:=by
 obtain⟨pre,post,rfl,hb⟩:=h;refine⟨pre,?_,hb⟩;rw[List.take_append_of_le_length (by rw[List.length_append,X.row_len];omega),List.take_of_length_le (by rw[List.length_append,X.row_len];omega)]
theorem Z2i{l:List XN}{x:X}{b:Nat}{pre:List XN}(h:l.take (b+x.size)=pre++x.row b)(hb:pre.length=b):At l x b:=
 ⟨pre,l.drop (b+x.size),by rw[<- h,List.take_append_drop],hb⟩
theorem Zpha{l:List XN}{i:Int}{n:XN}(h:Zjw l i=some n):0<=i/\l[i.toNat]?=some n/\i.toNat<l.length:=by
 unfold Zjw at h
 split at h
 cases h;have:=List.getElem?_eq_some_iff.1 h;exact⟨by omega,h,this.1⟩
theorem Zre(l:List XN):∀ (f:Nat) (i:Int),0<=Zeh l f i->∃ (x:X) (b:Nat),x.ok=true/\At l x b/\Zeh l f i=b/\(b:Int)+x.size=i+1
 |0,i,h=>by simp[Zeh]at h
 |f+1,i,h=>by
  rw[Zeh]at h⊢
  cases hn:Zjw l i with
  |none=>rw[hn]at h;simp at h
  |some n=>
   rw[hn]at h;obtain⟨hi,hg,hlt⟩:=Zpha hn;simp only at h⊢
   cases hw:Zqd n with
   |false=>rw[hw]at h;simp at h
   |true=>
   rw[hw,cond_true]at h;rw[cond_true];have hrg:=Zig hw
   have htk:l.take (i.toNat+1)=l.take i.toNat++[n]:=by rw[List.take_add_one,hg];rfl
   cases h2:Z9a (Zeh l f) (Nat.blt 2 (Zy n.op)) n.c (i-1)with
   |none=>rw[h2]at h;simp at h
   |some l2=>
   rw[h2]at h;simp only at h⊢
   cases h1:Z9a (Zeh l f) (Nat.blt 1 (Zy n.op)) n.b l2 with
   |none=>rw[h1]at h;simp at h
   |some l1=>
   rw[h1]at h;simp only at h⊢
   cases h0:Z9a (Zeh l f) (Nat.blt 0 (Zy n.op)) n.a l1 with
   |none=>rw[h0]at h;simp at h
   |some l0=>
   rw[h0]at h;simp only at h⊢;obtain⟨op,num,name,a,b,c⟩:=n;simp only at h2 h1 h0 hrg
   by_cases h4:op<=4
   .have hp:Zy op=0:=by unfold Zy;rw[if_pos h4]
    rw[hp]at h2 h1 h0
    obtain⟨_,rfl,rfl⟩|⟨hh,_⟩:=Zsb h2
    rotate_left;exact absurd hh (by decide)
    obtain⟨_,rfl,rfl⟩|⟨hh,_⟩:=Zsb h1
    rotate_left;exact absurd hh (by decide)
    obtain⟨_,rfl,rfl⟩|⟨hh,_⟩:=Zsb h0
    rotate_left;exact absurd hh (by decide);refine⟨.leaf op num name,i.toNat,by unfold X.ok;rw[hw];simp;omega,Z2i (pre:=l.take i.toNat) (by rw[X.size,htk];rfl) (by rw[List.length_take];omega),by omega,by simp only[X.size];omega⟩
   have hnn:=Z37 hw (show op≠1 by omega);simp only at hnn;obtain⟨rfl,hnm,_⟩:=hnn;obtain rfl:=hnm (by omega)
   by_cases h6:op<=6
   .have hp:Zy op=1:=by unfold Zy;rw[if_neg h4,if_pos h6]
    rw[hp]at h2 h1 h0
    obtain⟨_,rfl,rfl⟩|⟨hh,_⟩:=Zsb h2
    rotate_left;exact absurd hh (by decide)
    obtain⟨_,rfl,rfl⟩|⟨hh,_⟩:=Zsb h1
    rotate_left;exact absurd hh (by decide)
    obtain⟨hh,_⟩|⟨_,rfl,hr,rfl⟩:=Zsb h0
    exact absurd hh (by decide);obtain⟨x,bx,ok1,at1,e1,s1⟩:=Zre l f _ hr;obtain⟨pre,g1,g2⟩:=at1.glue;refine⟨.un op x,bx,by unfold X.ok;rw[ok1];simp;omega,Z2i (pre:=pre) ?_ g2,by omega,by simp only[X.size];omega⟩;rw[show bx+(X.un op x).size=i.toNat+1 by simp only[X.size];omega,htk,show i.toNat=bx+x.size by omega,g1,X.row,List.append_assoc]
    congr 4;omega
   by_cases h21:op<=21
   .have hp:Zy op=2:=by unfold Zy;rw[if_neg h4,if_neg h6,if_pos h21]
    rw[hp]at h2 h1 h0
    obtain⟨_,rfl,rfl⟩|⟨hh,_⟩:=Zsb h2
    rotate_left;exact absurd hh (by decide)
    obtain⟨hh,_⟩|⟨_,rfl,hr1,rfl⟩:=Zsb h1
    exact absurd hh (by decide)
    obtain⟨hh,_⟩|⟨_,rfl,hr0,rfl⟩:=Zsb h0
    exact absurd hh (by decide);obtain⟨y,by',ok1,at1,e1,s1⟩:=Zre l f _ hr1;rw[e1]at hr0 h0 h⊢;obtain⟨x,bx,ok0,at0,e0,s0⟩:=Zre l f _ hr0;obtain⟨prey,gy1,gy2⟩:=at1.glue;obtain⟨prex,gx1,gx2⟩:=at0.glue
    have eby:by'=bx+x.size:=by omega
    have hpy:prey=prex++x.row bx:=by
     have:(l.take (by'+y.size)).take by'=prey:=by rw[gy1,List.take_left' gy2]
     rw[<- this,List.take_take,Nat.min_eq_left (by omega),eby,gx1]
    refine⟨.bin op x y,bx,by unfold X.ok;rw[ok1,ok0];simp;omega,Z2i (pre:=prex) ?_ gx2,by omega,by simp only[X.size];omega⟩;rw[show bx+(X.bin op x y).size=i.toNat+1 by simp only[X.size];omega,htk,show i.toNat=by'+y.size by omega,gy1,hpy,X.row,eby];simp only[List.append_assoc]
    congr 5<;>omega
   have hp:Zy op=3:=by unfold Zy;rw[if_neg h4,if_neg h6,if_neg h21]
   obtain rfl:op=22:=by omega
   rw[hp]at h2 h1 h0
   obtain⟨hh,_⟩|⟨_,rfl,hr2,rfl⟩:=Zsb h2
   exact absurd hh (by decide);obtain⟨z,bz,ok2,at2,e2,s2⟩:=Zre l f _ hr2;rw[e2]at h1
   obtain⟨hh,_⟩|⟨_,rfl,hr1,rfl⟩:=Zsb h1
   exact absurd hh (by decide);obtain⟨y,by',ok1,at1,e1,s1⟩:=Zre l f _ hr1;rw[e1]at h0
   obtain⟨hh,_⟩|⟨_,rfl,hr0,rfl⟩:=Zsb h0
   exact absurd hh (by decide);obtain⟨x,bx,ok0,at0,e0,s0⟩:=Zre l f _ hr0;obtain⟨prez,gz1,gz2⟩:=at2.glue;obtain⟨prey,gy1,gy2⟩:=at1.glue;obtain⟨prex,gx1,gx2⟩:=at0.glue
   have eby:by'=bx+x.size:=by omega
   have ebz:bz=bx+x.size+y.size:=by omega
   have hpy:prey=prex++x.row bx:=by
    have:(l.take (by'+y.size)).take by'=prey:=by rw[gy1,List.take_left' gy2]
    rw[<- this,List.take_take,Nat.min_eq_left (by omega),eby,gx1]
   have hpz:prez=prey++y.row by':=by
    have:(l.take (bz+z.size)).take bz=prez:=by rw[gz1,List.take_left' gz2]
    rw[<- this,List.take_take,Nat.min_eq_left (by omega),show bz=by'+y.size by omega,gy1]
   refine⟨.ite x y z,bx,by unfold X.ok;rw[ok2,ok1,ok0];rfl,Z2i (pre:=prex) ?_ gx2,by omega,by simp only[X.size];omega⟩;rw[show bx+(X.ite x y z).size=i.toNat+1 by simp only[X.size];omega,htk,show i.toNat=bz+z.size by omega,gz1,hpz,hpy,X.row,ebz,eby];simp only[List.append_assoc]
   congr 6<;>omega
def Zvv(l:List XN):Bool:=Zeh l l.length ((l.length:Int)-1)==0
theorem Zco(x:X):At (x.row 0) x 0:=⟨[],[],by simp,rfl⟩
theorem Zxr{l:List XN}:Zvv l=true↔∃ x:X,x.ok=true/\l=x.row 0:=by
 unfold Zvv;rw[beq_iff_eq]
 constructor
 intro h;obtain⟨x,b,h1,h2,h3,h4⟩:=Zre l l.length ((l.length:Int)-1) (by omega)
 obtain rfl:b=0:=by omega
 obtain⟨pre,post,rfl,hb⟩:=h2;obtain rfl:=List.length_eq_zero_iff.1 hb
 have hl:post.length=0:=by
  simp only[List.nil_append,List.length_append,X.row_len]at h4;omega
 obtain rfl:=List.length_eq_zero_iff.1 hl;exact⟨x,h1,by simp⟩;rintro⟨x,hx,rfl⟩;have:=Z1j x (x.row 0) 0 (x.row 0).length hx (Zco x) (by rw[X.row_len];exact Nat.le_refl _);rw[X.row_len]at this⊢;simpa using this
theorem Z0o(l:List XN):Zvv l=decide (Zkb l≠0):=by
 rw[Bool.eq_iff_iff,Zxr,decide_eq_true_iff]
 constructor
 rintro⟨x,hx,rfl⟩;rw[Z5w hx];have:=x.depth_pos;omega;exact Z9l
end Go.Hs
end

section
namespace Go.Hs
open Go.Proofs
set_option maxRecDepth 10000
theorem Zt1(G:Nat->V)(hG:GOk G)(ca cb:Col)(a b:Sl Int)(ha:a.l.length<1000000000):
  Spec Tryz.prog G 303 [Zb ca 1 (V.int .i64) a,Zb cb 1 (V.int .i64) b] Zk (λv _=>v=.bool (a.l==b.l)):=by
 refine Zo 0 26 [.tmp 4] Tryz.func303 λX=>?_;refine Z1 ?_;refine Z1 ?_;refine Zi rfl (λh2=>?_) (λh2=>?_);refine Z ?_;simp at h2⊢;intro e;rw[e]at h2;exact h2 rfl;refine Z0 ?_
 have hl:a.l.length=b.l.length:=by simp at h2;omega
 refine Z1 ?_;refine AW.block ?_
 refine Z9 a.l.length (λk (_:Unit)=>st [(0,Zb ca 1 (V.int .i64) a),(1,Zb cb 1 (V.int .i64) b),(12,.int .i64 a.l.length),(13,.int .i64 k)] []) (λk _=>a.l.take k=b.l.take k) 0 () (Nat.zero_le _) zS
  (Za (by simp -implicitDefEqProofs only[go_sem,seval];try simp) zp) ?_
 intro k _ hk hR L4 hL4;refine Z1 ?_;refine Z4 ?_;refine Zi rfl (λh6=>?_) (λh6=>?_);refine Z0 ?_;have hk1:k<a.l.length:=zu h6;have hk2:k<b.l.length:=zo;refine Z1 ?_
 refine Z4<|Zw ⟨λ_=>.top,λ_=>.pure⟩ zk hG zk zk ?_
 simp -implicitDefEqProofs only[go_sem,seval,List.getElem?_eq_getElem hk1,List.getElem?_eq_getElem hk2];refine Zi rfl (λh8=>?_) (λh8=>?_);refine Z ?_;simp at h8;simp;intro e;simp[e]at h8;refine Z0 ?_;have h3':a.l[k]=b.l[k]:=zu h8;refine Z1 ?_;refine hL4 _ ⟨hk1,(),?_,Za (by refine Zs ?_;simp;exact w64 zo zo) zp⟩;rw[List.take_succ_eq_append_getElem hk1,List.take_succ_eq_append_getElem hk2,hR,h3'];refine Z0 ?_
 have hk1:k=a.l.length:=by simp at h6;omega
 refine Z ?_;subst hk1;rw[List.take_length,hl,List.take_length]at hR;simp[hR]
theorem Zv9(G:Nat->V)(hE:GExp G)(n:XN)(hn:n.name.length<100000):Spec Tryz.prog G 302 [Zxa n] Zk (λv _=>v=.bool (Zqd n)):=by
 have hG:=hE.ok;refine Zo 0 43 [.tmp 2] Tryz.func302 λX=>?_
 have hW:Zqd n=if n.op<1\/n.op>22\/n.num<0 then false else if n.op=2 then n.num==0&&isP n.name==2 else n.name==[]&&(n.op==1||n.num==0):=rfl
 obtain⟨op,num,name,a,b,c⟩:=n;simp only at hn hW;simp only[Z5a];refine Z6 λK hK=>AW.region zk ?_;refine Zs ?_;intro g1;refine hK _ ?_
 try clear hK K
 refine Zda (fun(_:Unit)=>st [(1,.ptr 1 g1 0)] [(1,.cells .new g1 0 [.int .u8 op,.int .i64 num,.str name,.int .i64 a,.int .i64 b,.int .i64 c])]) (λ_=>¬ (op<1\/op>22\/num<0)/\op≠2) (λK1 hK1=>?_) ?_;refine AW.block ?_
 by_cases h0:op<1\/op>22\/num<0
 .rw[if_pos h0]at hW
  have key:∀ K:AS->Prop,(K (st [(1,.ptr 1 g1 0),(3,.bool true)] [(1,.cells .new g1 0 [.int .u8 op,.int .i64 num,.str name,.int .i64 a,.int .i64 b,.int .i64 c])]))->True:=λ_ _=>trivial
  cases h1:decide (op<1)<;>cases h2:decide (op>22)<;>cases h3:decide (num<0)
  simp only[decide_eq_false_iff_not]at h1 h2 h3
  rcases h0 with h|h|h
  exact absurd h h1;exact absurd h h2;exact absurd h h3
  all_goals
   (refine Z6 λK hK=>AW.region zk ?_;refine Zsf (zi h1 (zi h2 h3)) ?_;refine hK _ ?_;clear hK K)
   refine Zi (b:=true) zp (λ_=>?_) (λh=>by cases h)
   (refine Z6 λK hK=>AW.region zk ?_;refine Zs ?_;refine hK _ ?_;clear hK K)
   (refine AW.ret ?_;refine Zs ?_;refine Z7a ?_)
   rw[hW]
 .have h1:decide (op<1)=false:=by rw[decide_eq_false_iff_not];exact λh=>h0 (.inl h)
  have h2:decide (op>22)=false:=by rw[decide_eq_false_iff_not];exact λh=>h0 (.inr (.inl h))
  have h3:decide (num<0)=false:=by rw[decide_eq_false_iff_not];exact λh=>h0 (.inr (.inr h))
  rw[if_neg h0]at hW;refine Z6 λK hK=>AW.region zk ?_;refine Zsf (zi h1 (zi h2 h3)) ?_;refine hK _ ?_
  try clear hK K
  refine Zbb rfl ?_
  try clear h4
  refine Z6 λK hK=>AW.region zk ?_;refine Zs ?_;refine hK _ ?_
  try clear hK K
  refine Zi rfl (λh5=>?_) (λh5=>?_)
  .have h5:op=2:=zu h5
   rw[if_pos h5]at hW
   cases h6:(num==0)with
   |false=>
    refine Z6 λK hK=>AW.region zk ?_;refine Zsf h6 ?_;refine hK _ ?_
    try clear hK K
    refine Z ?_
    rw[hW,h6]<;>rfl
   |true=>
    refine Z6 λK hK=>AW.region zk ?_;refine Zsf h6 ?_;refine Zc hG ?_ (s:=(Z7f G hE name zo));refine hK _ ?_
    try clear hK K
    refine Z ?_;rw[hW,h6,Bool.true_and];generalize isP name=z
    cases hz:(z==2)with
    |true=>
     have:((z:Int)==2)=true:=by rw[beq_iff_eq]at hz⊢;omega
     rw[this]
    |false=>
     have:((z:Int)==2)=false:=by rw[beq_eq_false_iff_ne]at hz⊢;omega
     rw[this]
  have h5:¬ op=2:=zu h5;refine Z0 ?_;exact hK1 _ () ⟨h0,h5⟩ (Za zp zp)
 rintro _ ⟨h0,h5⟩;rw[if_neg h0,if_neg h5]at hW
 cases h1:(name==[])<;>cases h2:(op==1)<;>cases h3:(num==0)<;>((refine Z6 λK hK=>AW.region zk ?_;refine Zsf (zi h1 (zi h2 h3)) ?_;refine hK _ ?_;clear hK K);(refine AW.ret ?_;refine Zs ?_;refine Z7a ?_);rw[hW,h1,h2,h3]<;>rfl)
def Zfg(p:Int×Int):V:=.agg [.int .i64 p.1,.int .i64 p.2]
theorem Zyj(p:Int×Int):(Zfg p).cells.length=2:=rfl
theorem Zdca{l:List XN}{k:Nat}{n:XN}(h:l[k]?=some n)(i:Int)(opn:List (Int×Int)):Zvd (l.drop k) i opn=match Zld i n opn with|some o=>Zvd (l.drop (k+1)) (i+1) o|none=>none:=by
 obtain⟨h1,h2⟩:=List.getElem?_eq_some_iff.1 h
 rw[List.drop_eq_getElem_cons h1,h2]<;>rfl
theorem Z8ga{op:Int}(h1:1<=op)(h2:op<=22):tabC[op.toNat*3+2]?=some (.int .i64 (Zy op:Nat)):=by
 obtain⟨n,rfl⟩:∃ n:Nat,op=n:=⟨op.toNat,zo⟩;rw[Int.toNat_natCast,Zc8 n zo 2 zd]
 have:∀ n:Nat,n<23->1<=n->(tabL.getD n ⟨[],0,0⟩).parts=(Zy n:Nat):=by decide +kernel
 rw[<- this n zo zo]<;>rfl
theorem Zwia:∀ (l:List (Int×Int)) (i:Nat) (x:Int×Int),l[i]?=some x->((flat (l.map Zfg)).drop (i*2)).take 2=[.int .i64 x.1,.int .i64 x.2]
 |[],i,x,h=>by simp at h
 |y::r,0,x,h=>by
  have:y=x:=zu h;subst this;rfl
 |y::r,i+1,x,h=>by
  have ih:=Zwia r i x (zu h);rw[<- ih,List.map_cons];have:flat (Zfg y::r.map Zfg)=.int .i64 y.1::.int .i64 y.2::flat (r.map Zfg):=rfl;rw[this,show(i+1)*2=i*2+1+1 by omega,List.drop_succ_cons,List.drop_succ_cons]
def plC(l:List (Int×Int)):List V:=(Z0b l).map (V.int .i64)
theorem plC_set:∀ (l:List (Int×Int)) (j:Nat) (x:Int×Int),l[j]?=some x->j<3->Hs.setAt (plC (l.take j)) j [.int .i64 x.1]=plC (l.take (j+1)):=by
 intro l j x h hj
 match l,j,h,hj with
 |a::r,0,h,_=>
  have:a=x:=zu h;subst this;rfl
 |a::b::r,1,h,_=>
  have:b=x:=zu h;subst this;rfl
 |a::b::c::r,2,h,_=>
  have:c=x:=zu h;subst this;rfl
theorem Z7w(l:List (Int×Int))(j:Nat)(x:Int×Int)(h:l[j]?=some x):Z8b (l.take (j+1))=max (Z8b (l.take j)) x.2:=by
 unfold Z8b
 rw[List.take_add_one,h,List.foldl_append]<;>rfl
theorem plC_len(l:List (Int×Int)):(plC l).length=3:=rfl
theorem Z7aa(op:Int):Zy op<=3:=by
 unfold Zy
 split
 omega
 split
 omega
 split<;>omega
theorem Zeca{l:List (Int×Int)}{k:Int}(hk:0<=k)(h:∀ y∈l,(0:Int)<=y.2/\y.2<=k):0<=Z8b l/\Z8b l<=k:=by
 have:∀ (l:List (Int×Int)) (d:Int),0<=d->d<=k->(∀ y∈l,(0:Int)<=y.2/\y.2<=k)->0<=l.foldl (λd p=>max d p.2) d/\l.foldl (λd p=>max d p.2) d<=k:=by
  intro l
  induction l with
  |nil=>intro d h1 h2 _;exact⟨h1,h2⟩
  |cons y r ih=>
   intro d h1 h2 h3;have:=h3 y zS;exact ih (max d y.2) zo zo λz hz=>h3 z (by simp[hz])
 exact this l 0 (Int.le_refl _) hk h
theorem Zvia(l:List (Int×Int))(n:Nat):(flat (l.map Zfg)).take (n*2)=flat ((l.take n).map Zfg):=by
 induction l generalizing n with
 |nil=>simp[flat]
 |cons y r ih=>
  cases n with
  |zero=>simp[flat]
  |succ n=>
   have e:flat ((y::r).map Zfg)=.int .i64 y.1::.int .i64 y.2::flat (r.map Zfg):=rfl
   rw[e,List.take_succ_cons,List.map_cons,show(n+1)*2=n*2+1+1 by omega,List.take_succ_cons,List.take_succ_cons,ih]<;>rfl
theorem Zeo(G:Nat->V)(hE:GExp G)(c:Col)(s:Sl XN)(hs:s.l.length<1000000)(hnm:∀ n∈s.l,n.name.length<100000):
  Spec Tryz.prog G 280 [.agg [Zb c 6 Zxa s]] Zk (λv _=>v=.int .i64 (Zkb s.l)):=by
 have hG:=hE.ok;refine Zo 0 81 [.tmp 2] Tryz.func280 λX=>?_
 have hD:Zkb s.l=match Zvd s.l 0 []with|some [x]=>x.2|_=>0:=rfl
 have hnone:Zvd s.l 0 []=none->Zkb s.l=0:=λh=>by rw[hD,h]
 refine Z1 ?_;intro g1;refine Z1 ?_;refine Zn hG ?_ (s:=(Zij G hG));refine Zsf (zi @Zi1 (zi @Z3s @Nat.le_refl)) ?_;intro g3;rw[Zuo _ ?hl]
 case hl=>rfl
 refine Z1 ?_;refine Z1 ?_;refine AW.block ?_
 refine Z9 s.l.length (λk (x:Nat×List (Int×Int))=>st [(3,.ptr 3 g3 0),(4,grown 72 x.1 2 x.2),(14,Zb c 6 Zxa s),(15,.int .i64 s.l.length),(16,.int .i64 k)] [(3,.cells .new g3 0 tabC),(72,Zza x.1 Zfg x.2)])
  (λk x=>Zvd s.l 0 []=Zvd (s.l.drop k) k x.2/\x.2.length<=k/\∀ y∈x.2,(0:Int)<=y.2/\y.2<=k) 0 (0,[]) (Nat.zero_le _) ⟨zS,Nat.le_refl _,zS⟩
  (Za zp zp) ?_
 rintro k ⟨gx,opn⟩ hk ⟨hR,hol,hdp⟩ L2 hL2
 replace hR:Zvd s.l 0 []=Zvd (s.l.drop k) k opn:=hR
 replace hol:opn.length<=k:=hol
 replace hdp:∀ y∈opn,(0:Int)<=y.2/\y.2<=k:=hdp
 refine Z1 ?_;refine Z4 ?_;refine Zi rfl (λh4=>?_) (λh4=>?_)
 .have hk1:k<s.l.length:=zu h4
  have hg:=List.getElem?_eq_getElem hk1;have hnn:=hnm _ (List.getElem_mem hk1);generalize s.l[k]=n at hg hnn;rw[Zdca hg]at hR;refine Z1f (zi hg @Z5a) ?_;intro g6;refine Z1 ?_;rw[<- Z5a];refine Zcf @Zhi hG ?_ (s:=(Zv9 G hE n hnn))
  have hst:Zld k n opn=if Zqd n=false then none else if opn.length<Zy n.op then none
   else if Z0b (opn.drop (opn.length-Zy n.op))≠[n.a,n.b,n.c]then none
   else some (opn.take (opn.length-Zy n.op)++[((k:Int),Z8b (opn.drop (opn.length-Zy n.op))+1)]):=rfl
  cases hw:Zqd n with
  |false=>
   rw[if_pos hw]at hst;rw[hst]at hR;refine Zi rfl (λh7=>?_) (λh7=>?_);refine Z ?_;rw[hnone hR];cases h7
  |true=>
  rw[if_neg (by rw[hw];simp)]at hst;refine Z0 ?_;have hrg:=Zig hw;have hpt:=Z8ga hrg.1 hrg.2;have hp3:Zy n.op<=3:=Z7aa _;generalize hpd:Zy n.op=p at hst hpt hp3;have hop0:(0:Int)<=n.op:=zo;have hop23:n.op<23:=zo;have hsub:IntKind.i64.wrap ((opn.length:Int)-(p:Int))=(opn.length:Int)-p:=w64 zo zo;refine Z1f (zi hop0 (zi hop23 (zi hpt (zi hsub @Nat.zero_add)))) ?_;refine Z4 ?_
  by_cases hlt:opn.length<p
  have e1:decide ((opn.length:Int)-p<0)=true:=zT;rw[if_pos hlt]at hst;rw[hst]at hR;refine Z1f e1 ?_;refine Zi rfl (λh9=>?_) (λh9=>?_);refine Z ?_;rw[hnone hR];cases h9;have e1:decide ((opn.length:Int)-p<0)=false:=zF;rw[if_neg hlt]at hst;refine Z1f e1 ?_;refine Z0 ?_;obtain⟨kk,hkk⟩:∃ kk:Nat,kk=opn.length-p:=⟨_,rfl⟩;rw[<- hkk]at hst;have hkd:(opn.length:Int)-p=(kk:Int):=zo;rw[hkd];refine Z1 ?_;intro g34;have hkl:kk+p=opn.length:=zo
  refine Zda (fun(_:Unit)=>st [(3,.ptr 3 g3 0),(4,grown 72 gx 2 opn),(5,.int .i64 k),(6,.ptr 6 g6 0),(7,.int .i64 kk),(8,.msl 34 g34 0 3 1),(9,.int .i64 (Z8b (opn.drop kk))),(14,Zb c 6 Zxa s),(15,.int .i64 s.l.length),(16,.int .i64 k)]
    [(3,.cells .new g3 0 tabC),(72,Zza gx Zfg opn),(6,.cells .new g6 0 [.int .u8 n.op,.int .i64 n.num,.str n.name,.int .i64 n.a,.int .i64 n.b,.int .i64 n.c]),(34,.cells .new g34 0 (plC (opn.drop kk)))])
   (λ_=>True) (λK10 hK10=>?_) ?_
  by_cases hp0:p=0
  have hdn:opn.drop kk=[]:=List.drop_eq_nil_of_le zo;rw[hdn]at hK10;subst hp0;have hkle:kk<=opn.length:=zo;have hnlt:¬ kk<opn.length:=zo
  by_cases hne:opn=[]
  subst hne;have hk0:kk=0:=zu hkl;subst hk0;refine Zhc zk ?_;simp -implicitDefEqProofs only[go_sem,seval,Zne,Zsg,and_self];refine AW.block ?_
  refine Z9 0 (λj (_:Unit)=>st [(3,.ptr 3 g3 0),(5,.int .i64 k),(4,.nils),(6,.ptr 6 g6 0),(7,.int .i64 (0:Nat)),(8,.msl 34 g34 0 3 1),(9,.int .i64 0),(14,Zb c 6 Zxa s),(15,.int .i64 s.l.length),(16,.int .i64 k),(38,.int .i64 0),(39,.int .i64 j)]
    [(3,.cells .new g3 0 tabC),(6,.cells .new g6 0 [.int .u8 n.op,.int .i64 n.num,.str n.name,.int .i64 n.a,.int .i64 n.b,.int .i64 n.c]),(34,.cells .new g34 0 (plC []))])
   (λj _=>True) 0 () (Nat.zero_le _) trivial (Za zp zp) ?_
  intro j _ hj _ L11 hL11;obtain rfl:j=0:=zo;refine Z1 ?_;refine Z0 ?_;refine Z0 ?_;exact hK10 _ () trivial (Za (zpf @Zne) (zpf @Zsg))
  have hk0:¬ kk=0:=by
   intro h;have:opn.length=0:=zo;exact hne (List.length_eq_zero_iff.1 this)
  refine Zhc zk ?_;simp -implicitDefEqProofs only[go_sem,seval,Zlc 72 gx 2 hne,hkle,Nat.le_refl,and_self,hk0,hnlt];refine AW.block ?_
  refine Z9 0 (λj (_:Unit)=>st [(3,.ptr 3 g3 0),(4,grown 72 gx 2 opn),(5,.int .i64 k),(6,.ptr 6 g6 0),(7,.int .i64 kk),(8,.msl 34 g34 0 3 1),(9,.int .i64 0),(14,Zb c 6 Zxa s),(15,.int .i64 s.l.length),(16,.int .i64 k),(38,.int .i64 0),(39,.int .i64 j)]
    [(3,.cells .new g3 0 tabC),(72,Zza gx Zfg opn),(6,.cells .new g6 0 [.int .u8 n.op,.int .i64 n.num,.str n.name,.int .i64 n.a,.int .i64 n.b,.int .i64 n.c]),(34,.cells .new g34 0 (plC []))])
   (λj _=>True) 0 () (Nat.zero_le _) trivial (Za (by refine Zs ?_;rw[Zlc 72 gx 2 hne];try exact⟨rfl,rfl⟩) zp) ?_
  intro j _ hj _ L11 hL11;obtain rfl:j=0:=zo;refine Z1 ?_;refine Z0 ?_;refine Z0 ?_;exact hK10 _ () trivial (Za zp zp)
  have hne:opn≠[]:=by intro e;rw[e]at hkl;simp at hkl;omega
  have hsl:(if kk=0 then V.msl 72 gx 0 opn.length 2 else if kk<opn.length then V.msl 72 gx (kk*2) (opn.length-kk) 2 else V.slice .any false 2 [])=.msl 72 gx (kk*2) p 2:=by
   by_cases h0:kk=0
   rw[if_pos h0];congr 1<;>omega
   rw[if_neg h0,if_pos zo];congr 1;omega
  have hkle:kk<=opn.length:=zo;refine Zhc zk ?_;simp -implicitDefEqProofs only[go_sem,seval,Zlc 72 gx 2 hne,hkle,Nat.le_refl,and_self,hsl,Nat.zero_add];refine AW.block ?_
  refine Z9 p (λj (_:Unit)=>st [(3,.ptr 3 g3 0),(4,grown 72 gx 2 opn),(5,.int .i64 k),(6,.ptr 6 g6 0),(7,.int .i64 kk),(8,.msl 34 g34 0 3 1),(9,.int .i64 (Z8b ((opn.drop kk).take j))),(14,Zb c 6 Zxa s),(15,.int .i64 s.l.length),(16,.int .i64 k),(37,.msl 72 gx (kk*2) p 2),(38,.int .i64 p),(39,.int .i64 j)]
    [(3,.cells .new g3 0 tabC),(72,Zza gx Zfg opn),(6,.cells .new g6 0 [.int .u8 n.op,.int .i64 n.num,.str n.name,.int .i64 n.a,.int .i64 n.b,.int .i64 n.c]),(34,.cells .new g34 0 (plC ((opn.drop kk).take j)))])
   (λj _=>True) 0 () (Nat.zero_le _) trivial
   (Za (by refine Zs ?_;rw[Zlc 72 gx 2 hne];exact⟨rfl,rfl⟩) zp) ?_
  intro j _ hj _ L11 hL11;refine Z1 ?_;refine Z4 ?_;refine Zi rfl (λh13=>?_) (λh13=>?_);have hj1:j<p:=zL h13;refine Z0 ?_;refine Z4 ?_;refine AW.block ?_;obtain⟨x,hx⟩:∃ x,opn[kk+j]?=some x:=⟨_,List.getElem?_eq_getElem zo⟩
  have hxd:(opn.drop kk)[j]?=some x:=by rw[List.getElem?_drop];exact hx
  have hfp:=Zwia opn (kk+j) x hx;rw[show(kk+j)*2=kk*2+j*2 by omega]at hfp
  have hfl:kk*2+j*2+2<=(flat (opn.map Zfg)).length:=by rw[Zya (m:=2) Zyj];omega
  have hps:=plC_set (opn.drop kk) j x hxd zo;have hds:=Z7w (opn.drop kk) j x hxd;have hpl:=plC_len ((opn.drop kk).take j);generalize plC ((opn.drop kk).take j)=pc at hps hpl⊢;generalize Z8b ((opn.drop kk).take j)=dd at hds⊢;have hj3:(j:Int)<3:=zo;refine Zhc zk ?_;simp -implicitDefEqProofs only[go_sem,seval,Z0c gx Zfg hne,hfp,hfl,Int.natCast_nonneg,hj1,Int.ofNat_lt];intro g11
  refine AW.weak (Zt (λo=>o==11) (l:=[(3,.ptr 3 g3 0),(4,grown 72 gx 2 opn),(5,.int .i64 k),(6,.ptr 6 g6 0),(7,.int .i64 kk),(8,.msl 34 g34 0 3 1),(9,.int .i64 dd),(10,.int .i64 j),(11,.view .new (.agg [.int .i64 x.1,.int .i64 x.2])),(14,Zb c 6 Zxa s),(15,.int .i64 s.l.length),(16,.int .i64 k),(37,.msl 72 gx (kk*2) p 2),(38,.int .i64 p),(39,.int .i64 j)])
   (m:=[(3,.cells .new g3 0 tabC),(72,Zza gx Zfg opn),(6,.cells .new g6 0 [.int .u8 n.op,.int .i64 n.num,.str n.name,.int .i64 n.a,.int .i64 n.b,.int .i64 n.c]),(34,.cells .new g34 0 pc)]) ?_ ?_) ?_
  refine Zs ?_;refine⟨Fz.same _,Fz.same _,Fz.same _,Fz.same _,Fz.same _,Fz.same _,Fz.same _,Fz.same _,?_,Fz.same _,Fz.same _,Fz.same _,Fz.same _,Fz.same _,Fz.same _⟩;exact Fz.ptr (v:=.agg [.int .i64 x.1,.int .i64 x.2]) (c:=.new) (fz:=0) rfl zp;simp only[Zv,Zz,and_true];exact⟨FzO.keep rfl zp,FzO.keep rfl (by first|rfl|(rw[Z0c gx Zfg hne]<;>rfl)|(simp -implicitDefEqProofs only[go_sem,seval];try rfl)),FzO.keep rfl zp,FzO.keep rfl zp⟩;refine Zw ⟨λ_=>.top,λi=>if i=3 then .lend else if i=6 then .lend else .pure⟩ zk hG zk zk ?_;have hjl:j+1<=pc.length:=zo;have hset:pc.set j (.int .i64 x.1)=plC ((opn.drop kk).take (j+1)):=hps
  have hmx:(if x.2>dd then x.2 else dd)=max dd x.2:=by
   rw[Int.max_def];split<;>split<;>omega
  simp -implicitDefEqProofs only[go_sem,seval,hj3,Int.natCast_nonneg,Nat.mul_one,Nat.zero_le,hjl,hset,hmx,<- hds];refine Z1 ?_;refine hL11 _ ⟨hj1,(),trivial,Za zw zp⟩
  have hj1:j=p:=by have:=zN h13;omega
  have htk:(opn.drop kk).take j=opn.drop kk:=List.take_of_length_le (by rw[List.length_drop];omega);rw[htk];refine Z0 ?_;exact hK10 _ () trivial (Za zp zp);intro _ _;refine Z4 ?_;have hpl:Z0b (opn.drop kk)=[(Z0b (opn.drop kk)).getD 0 0,(Z0b (opn.drop kk)).getD 1 0,(Z0b (opn.drop kk)).getD 2 0]:=rfl;refine Z1 ?_;intro g61;refine Zua hG [Zb .old 1 (V.int .i64) (.mk false (Z0b (opn.drop kk))),Zb .old 1 (V.int .i64) (.mk false [n.a,n.b,n.c])] zk ⟨?_,?_,trivial⟩ ?_;exact Rd.msl (off:=0) (n:=3) (l:=Z0b (opn.drop kk)) (f:=V.int .i64) (f':=V.int .i64) (g:=g34) (fz:=0) (c:=.new) (by refine Zs ?_;exact congrArg (AObj.cells Col.new g34 0) (Zjs _ _).symm) (λ_=>rfl) (λx y hy=>by simp[V.cells]at hy;subst hy;exact .int _ _) (λ_=>rfl) (by simp[Z0b]);exact Rd.msl (off:=0) (n:=3) (l:=[n.a,n.b,n.c]) (f:=V.int .i64) (f':=V.int .i64) (g:=g61) (fz:=0) (c:=.new) zp (λ_=>rfl) (λx y hy=>by simp[V.cells]at hy;subst hy;exact .int _ _) (λ_=>rfl) zS;refine(Zt1 G hG _ _ (.mk false (Z0b (opn.drop kk))) (.mk false [n.a,n.b,n.c]) (by simp[Z0b,Sl.l])).mono ?_;rintro _ _ rfl;refine⟨.bool _,?_⟩;refine Zs ?_
  cases heq:(Z0b (opn.drop kk)==[n.a,n.b,n.c])with
  |false=>
   have heq2:Z0b (opn.drop kk)≠[n.a,n.b,n.c]:=zu heq;rw[if_pos heq2]at hst;rw[hst]at hR;refine Zi rfl (λh12=>?_) (λh12=>?_);refine Z ?_;rw[hnone hR];cases h12
  |true=>
  have heq2:¬ Z0b (opn.drop kk)≠[n.a,n.b,n.c]:=zu heq;rw[if_neg heq2]at hst;rw[hst]at hR;refine Z0 ?_;have hdb:=Zeca (l:=opn.drop kk) (k:=k) zo λy hy=>hdp y (List.mem_of_mem_drop hy);generalize Z8b (opn.drop kk)=dd at hR hdb⊢;have hwd:IntKind.i64.wrap (dd+1)=dd+1:=w64 zo zo;have hne2:opn.take kk++[((k:Int),dd+1)]≠[]:=zS
  have hlen2:(opn.take kk++[((k:Int),dd+1)]).length=kk+1:=by rw[List.length_append,List.length_take];simp;omega
  have hdp2:∀ y∈opn.take kk++[((k:Int),dd+1)],(0:Int)<=y.2/\y.2<=(k+1:Nat):=by
   intro y hy
   rcases List.mem_append.1 hy with h|h
   have:=hdp y (List.mem_of_mem_take h);omega
   rw[List.mem_singleton.1 h];show 0<=dd+1/\dd+1<=_;omega
  by_cases hne:opn=[]
  subst hne;have hk0:kk=0:=zu hkk;subst hk0;refine AW.region zk ?_;simp -implicitDefEqProofs only[go_sem,seval,Zne,Zsg,and_self,hwd];intro g71;refine Zna (f:=Zfg) (l:=([]:List (Int×Int))) (l2:=[((k:Int),dd+1)]) (g:=gx) Zyj rfl rfl rfl rfl (Z5 zo zS) λg2=>?_;refine Zs ?_;refine Z1 ?_;refine hL2 _ ⟨hk1,(g2,[((k:Int),dd+1)]),⟨hR,?_,hdp2⟩,Za zw zp⟩
  show 1<=k+1
  omega;have hkle:kk<=opn.length:=zo;refine AW.region zk ?_;simp -implicitDefEqProofs only[go_sem,seval,Zlc 72 gx 2 hne,Nat.zero_le,hkle,and_self,hwd,Z0c gx Zfg hne];intro g71;refine⟨Z5 zo zo,by rw[Zya (m:=2) Zyj];omega,λg2=>?_⟩;refine Z1 ?_;refine hL2 _ ⟨hk1,(g2,opn.take kk++[((k:Int),dd+1)]),⟨hR,?_,hdp2⟩,Za (by refine Zs ?_;exact⟨by rw[Zlc _ _ _ hne2,hlen2],congrArg _ (w64 zo zo)⟩) (by refine Zs ?_;rw[Z0c _ _ hne2,List.map_append,Z8g,<- Zvia]<;>rfl)⟩
  show(opn.take kk++[_]).length<=k+1
  rw[hlen2];omega
 .have hk1:k=s.l.length:=by simp at h4;omega
  refine Z0 ?_;rw[hk1,List.drop_length,Zvd]at hR;rw[hR]at hD;refine Z4 ?_
  match opn,hD with
  |[],hD=>
   refine Z1f @Zne ?_;refine Zi rfl (λh7=>?_) (λh7=>?_);refine Z ?_;rw[hD];cases h7
  |[x],hD=>
   have hne:[x]≠([]:List (Int×Int)):=zS;refine Z1 ?_;refine Z0 ?_;have hfx:flat ([x].map Zfg)=[.int .i64 x.1,.int .i64 x.2]:=rfl;refine Zhc zk ?_;simp -implicitDefEqProofs only[go_sem,seval,Zlc 72 gx 2 hne,Z0c gx Zfg hne,hfx];refine Z ?_;rw[hD]
  |x::y::r,hD=>
   have e1:(((x::y::r).length:Int) != 1)=true:=zO;refine Z1f e1 ?_;refine Zi rfl (λh7=>?_) (λh7=>?_);refine Z ?_;rw[hD];cases h7
theorem Zft(G:Nat->V)(hG:GOk G)(op:Int):Spec Tryz.prog G 336 [.int .u8 op] Zk (λv _=>v=.int .i64 (Zy op:Nat)):=by
 refine Zo 0 12 [.tmp 2] Tryz.func336 λX=>?_
 have hP:Zy op=if op<=4 then 0 else if op<=6 then 1 else if op<=21 then 2 else 3:=rfl
 refine Z1 ?_;refine Zda (fun(_:Unit)=>st [] []) (λ_=>¬ op<=4/\¬ op<=6/\¬ op<=21) (λK1 hK1=>?_) ?_;refine Z1 ?_;refine Zi rfl (λh1=>?_) (λh1=>?_);refine Z ?_
 rw[hP,if_pos (zu h1)]<;>rfl
 refine Z1 ?_;refine Zi rfl (λh2=>?_) (λh2=>?_);refine Z ?_
 rw[hP,if_neg (zu h1),if_pos (zu h2)]<;>rfl
 refine Z1 ?_;refine Zi rfl (λh3=>?_) (λh3=>?_);refine Z ?_
 rw[hP,if_neg (zu h1),if_neg (zu h2),if_pos (zu h3)]<;>rfl
 refine Z0 ?_;exact hK1 _ () ⟨zu h1,zu h2,zu h3⟩ (Za zp zp);rintro _ ⟨h1,h2,h3⟩;refine Z ?_
 rw[hP,if_neg h1,if_neg h2,if_neg h3]<;>rfl
theorem Z0v(G:Nat->V)(hG:GOk G)(n:XN)(hn:n.name.length<100000):Spec Tryz.prog G 335 [Zxa n] Zk (λv _=>v=.bool (Zqd n)):=by
 refine Zo 0 36 [.tmp 2] Tryz.func335 λX=>?_
 have hW:Zqd n=if n.op<1\/n.op>22\/n.num<0 then false else if n.op=2 then n.num==0&&isP n.name==2 else n.name==[]&&(n.op==1||n.num==0):=rfl
 obtain⟨op,num,name,a,b,c⟩:=n;simp only at hn hW;simp only[Z5a];refine Z6 λK hK=>AW.region zk ?_;refine Zs ?_;intro g1;refine hK _ ?_
 try clear hK K
 refine Zda (fun(_:Unit)=>st [(1,.ptr 1 g1 0)] [(1,.cells .new g1 0 [.int .u8 op,.int .i64 num,.str name,.int .i64 a,.int .i64 b,.int .i64 c])]) (λ_=>Zqd ⟨op,num,name,a,b,c⟩=if op=2 then isP name==2 else name==[]) (λK1 hK1=>?_) ?_
 have hK2:(op<1)=False->(op>22)=False->(num<0)=False->(op=1\/num=0)->Zqd ⟨op,num,name,a,b,c⟩=if op=2 then isP name==2 else name==[]:=by
  intro h1 h2 h3 h4;rw[hW,if_neg (by rintro(h|h|h);exact h1 ▸ h;exact h2 ▸ h;exact h3 ▸ h)]
  by_cases ho:op=2
  have:num=0:=h4.resolve_left zo
  rw[if_pos ho,if_pos ho,this]<;>rfl
  rw[if_neg ho,if_neg ho]
  rcases h4 with h|h
  rw[h];simp;rw[h];simp
 have hK3:(op<1\/op>22\/num<0\/(op≠1/\num≠0))->Zqd ⟨op,num,name,a,b,c⟩=false:=by
  intro h;rw[hW]
  split
  rfl;rename_i h0;simp only[not_or]at h0
  obtain⟨q1,q2⟩:op≠1/\num≠0:=by
   rcases h with h|h|h|h
   exact absurd h h0.1;exact absurd h h0.2.1;exact absurd h h0.2.2;exact h
  have e1:(op==1)=false:=zu q1;have e2:(num==0)=false:=zu q2;rw[e1,e2];simp
 by_cases q1:op<1
 have h1:decide (op<1)=true:=zu q1
 (refine Z6 λK hK=>AW.region zk ?_;refine Zsf h1 ?_;refine hK _ ?_;clear hK K)
 refine Zi (b:=true) zp (λ_=>?_) (λh=>by cases h)
 (refine Z6 λK hK=>AW.region zk ?_;refine Zs ?_;refine hK _ ?_;clear hK K)
 (refine AW.ret ?_;refine Zs ?_;refine Z7a ?_)
 rw[hK3 (.inl q1)];have h1:decide (op<1)=false:=zu q1
 by_cases q2:op>22
 have h2:decide (op>22)=true:=zu q2
 (refine Z6 λK hK=>AW.region zk ?_;refine Zsf (zi h1 h2) ?_;refine hK _ ?_;clear hK K)
 refine Zi (b:=true) zp (λ_=>?_) (λh=>by cases h)
 (refine Z6 λK hK=>AW.region zk ?_;refine Zs ?_;refine hK _ ?_;clear hK K)
 (refine AW.ret ?_;refine Zs ?_;refine Z7a ?_)
 rw[hK3 (.inr (.inl q2))];have h2:decide (op>22)=false:=zu q2
 by_cases q4:op=1
 have h4:(op != 1)=false:=zu q4
 by_cases q3:num<0
 have h3:decide (num<0)=true:=zu q3
 (refine Z6 λK hK=>AW.region zk ?_;refine Zsf (zi h1 (zi h2 (zi h3 h4))) ?_;refine hK _ ?_;clear hK K)
 refine Zi (b:=true) zp (λ_=>?_) (λh=>by cases h)
 (refine Z6 λK hK=>AW.region zk ?_;refine Zs ?_;refine hK _ ?_;clear hK K)
 (refine AW.ret ?_;refine Zs ?_;refine Z7a ?_)
 rw[hK3 (.inr (.inr (.inl q3)))];have h3:decide (num<0)=false:=zu q3
 (refine Z6 λK hK=>AW.region zk ?_;refine Zsf (zi h1 (zi h2 (zi h3 h4))) ?_;refine hK _ ?_;clear hK K)
 refine Zi (b:=false) zp (λh=>by cases h) (λ_=>?_);refine Z0 ?_;exact hK1 _ () (hK2 (eq_false q1) (eq_false q2) (eq_false q3) (.inl q4)) (Za zp zp);have h4:(op != 1)=true:=zu q4
 by_cases q5:num=0
 have h5:(num != 0)=false:=zu q5;have q3:¬ num<0:=zo;have h3:decide (num<0)=false:=zu q3
 (refine Z6 λK hK=>AW.region zk ?_;refine Zsf (zi h1 (zi h2 (zi h3 (zi h4 h5)))) ?_;refine hK _ ?_;clear hK K)
 refine Zi (b:=false) zp (λh=>by cases h) (λ_=>?_);refine Z0 ?_;exact hK1 _ () (hK2 (eq_false q1) (eq_false q2) (eq_false q3) (.inr q5)) (Za zp zp);have h5:(num != 0)=true:=zu q5
 (refine Z6 λK hK=>AW.region zk ?_;refine Zsf (zi h1 (zi h2 (zi h4 h5))) ?_;refine hK _ ?_;clear hK K)
 refine Zi (b:=true) zp (λ_=>?_) (λh=>by cases h)
 (refine Z6 λK hK=>AW.region zk ?_;refine Zs ?_;refine hK _ ?_;clear hK K)
 (refine AW.ret ?_;refine Zs ?_;refine Z7a ?_)
 rw[hK3 (.inr (.inr (.inr ⟨q4,q5⟩)))];rintro _ hW2;refine Z6 λK2 hK2=>?_;refine Z6 λK hK=>AW.region zk ?_;refine Zs ?_;refine hK _ ?_
 try clear hK K
 refine Zi rfl (λh5=>?_) (λh5=>?_)
 .have h5:op=2:=zu h5
  rw[if_pos h5]at hW2;refine Z6 λK hK=>AW.region zk ?_;refine Zs ?_;refine Zc hG ?_ (s:=(Z0g G hG name zo));refine hK _ ?_
  try clear hK K
  refine Z ?_;rw[hW2];generalize isP name=z
  cases hz:(z==2)with
  |true=>
   have:((z:Int)==2)=true:=by rw[beq_iff_eq]at hz⊢;omega
   rw[this]
  |false=>
   have:((z:Int)==2)=false:=by rw[beq_eq_false_iff_ne]at hz⊢;omega
   rw[this]
 .have h5:¬ op=2:=zu h5
  rw[if_neg h5]at hW2;refine Z0 ?_;refine hK2 _ ?_;refine Z6 λK hK=>AW.region zk ?_;refine Zs ?_;refine hK _ ?_
  try clear hK K
  refine Z ?_;rw[hW2]
def Zit(n:XN):Nat->Int
 |0=>n.a
 |1=>n.b
 |_=>n.c
def Zem(rec:Int->Int)(n:XN):Nat->Int->Option Int
 |0,last=>some last
 |k+1,last=>match Z9a rec (Nat.blt k (Zy n.op)) (Zit n k) last with
  |none=>none
  |some q=>Zem rec n k q
theorem Z1ja(l:List XN)(f:Nat)(i:Int):Zeh l (f+1) i=match Zjw l i with
  |none => -1
  |some n=>bif Zqd n then(match Zem (Zeh l f) n 3 (i-1)with|none => -1|some q=>q+1)else -1:=by
 rw[Zeh]
 cases Zjw l i with
 |none=>rfl
 |some n=>
  simp only
  cases Zqd n with
  |false=>rfl
  |true=>
   simp only[cond_true,Zem,Zit]
   cases Z9a (Zeh l f) (Nat.blt 2 (Zy n.op)) n.c (i-1)with
   |none=>rfl
   |some l2=>
    simp only
    cases Z9a (Zeh l f) (Nat.blt 1 (Zy n.op)) n.b l2 with
    |none=>rfl
    |some l1=>
     simp only
     cases Z9a (Zeh l f) (Nat.blt 0 (Zy n.op)) n.a l1 with
     |none=>rfl
     |some l0=>rfl
theorem Zxca{rec:Int->Int}{pl last:Int}(h:¬ pl=last):Z9a rec true pl last=none:=by simp[Z9a,h]
theorem Z82{rec:Int->Int}{pl last:Int}(h:pl=last)(h2:rec last<0):Z9a rec true pl last=none:=by simp[Z9a,h,h2]
theorem Z72{rec:Int->Int}{pl last:Int}(h:pl=last)(h2:¬ rec last<0):Z9a rec true pl last=some (rec last-1):=by simp[Z9a,h,h2]
theorem bsNo{rec:Int->Int}{pl last:Int}(h:¬ pl = -1):Z9a rec false pl last=none:=by simp[Z9a,h]
theorem bsNone{rec:Int->Int}{pl last:Int}(h:pl = -1):Z9a rec false pl last=some last:=by simp[Z9a,h]
theorem begR_le(l:List XN)(f:Nat)(i:Int)(h:0<=Zeh l f i):Zeh l f i<=i:=by
 obtain⟨x,b,_,_,h3,h4⟩:=Zre l f i h;have:=x.size_pos;omega
theorem Z51(G:Nat->V)(hG:GOk G)(s:Sl XN)(hs:s.l.length<1000000)(hnm:∀ n∈s.l,n.name.length<100000):∀ (f:Nat) (c:Col) (i:Int),-1<=i->i<f->i<1000000 ->
  Spec Tryz.prog G 315 [Zb c 6 Zxa s,.int .i64 i] Zk (λv _=>v=.int .i64 (Zeh s.l f i)):=by
 intro f
 induction f with
 |zero=>
  intro c i h1 h2 _;obtain rfl:i = -1:=zo;refine Zo 0 68 [.tmp 4] Tryz.func315 λX=>?_;refine Z1 ?_;refine Z1 ?_;refine Zi rfl (λh2=>?_) (λh2=>?_);exact Zr;cases h2
 |succ f ih=>
 intro c i h1 h2 h3;refine Zo 0 68 [.tmp 4] Tryz.func315 λX=>?_;have hB:=Z1ja s.l f i;generalize Zeh s.l (f+1) i=res at hB⊢;refine Z1 ?_;refine Z4 ?_
 by_cases hi:i<0
 have e1:decide (i<0)=true:=zu hi
 have hno:Zjw s.l i=none:=by unfold Zjw;rw[if_pos hi]
 rw[hno]at hB;refine Z1f e1 ?_;refine Zi rfl (λh4=>?_) (λh4=>?_);refine Z ?_;rw[hB];cases h4;have e1:decide (i<0)=false:=zu hi;obtain⟨m,rfl⟩:∃ m:Nat,i=m:=⟨i.toNat,zo⟩
 by_cases hm:m>=s.l.length
 have e2:decide ((m:Int)>=s.l.length)=true:=zT
 have hno:Zjw s.l m=none:=by unfold Zjw;rw[if_neg hi];exact List.getElem?_eq_none (zu hm)
 rw[hno]at hB;refine Z1f (zi e1 e2) ?_;refine Zi rfl (λh4=>?_) (λh4=>?_);refine Z ?_;rw[hB];cases h4;have e2:decide ((m:Int)>=s.l.length)=false:=zF;have hg:=List.getElem?_eq_getElem (Nat.lt_of_not_le hm);have hnn:=hnm _ (List.getElem_mem (Nat.lt_of_not_le hm));generalize s.l[m]=n at hg hnn
 have hno:Zjw s.l m=some n:=by unfold Zjw;rw[if_neg hi];exact hg
 rw[hno]at hB;simp only at hB;refine Z1f (zi e1 (zi e2 (zi hg @Z5a))) ?_;rw[<- Z5a];refine Zcf @Zhi hG ?_ (s:=(Z0v G hG n hnn))
 cases hw:Zqd n with
 |false=>
  rw[hw,cond_false]at hB;refine Zi rfl (λh4=>?_) (λh4=>?_);refine Z ?_;rw[hB];cases h4
 |true=>
 rw[hw,cond_true]at hB;refine Z1f (zi hg @Z5a) ?_;intro g5;refine Z1 ?_;intro g36;have hw1:IntKind.i64.wrap ((m:Int)-1)=(m:Int)-1:=w64 zo zo;refine Z1f hw1 ?_;refine Z1 ?_;refine AW.block ?_
 refine Zpb (fun(x:Nat×Int)=>st [(0,Zb c 6 Zxa s),(5,.ptr 5 g5 0),(6,.msl 36 g36 0 3 1),(7,.int .i64 x.2),(8,.int .i64 ((x.1:Int)-1))] [(5,.cells .new g5 0 [.int .u8 n.op,.int .i64 n.num,.str n.name,.int .i64 n.a,.int .i64 n.b,.int .i64 n.c]),(36,.cells .new g36 0 [.int .i64 n.a,.int .i64 n.b,.int .i64 n.c])])
  (λx=>(res=match Zem (Zeh s.l f) n x.1 x.2 with|none => -1|some q=>q+1)/\x.1<=3 /\ -1<=x.2/\x.2<=(m:Int)-1) (λx=>x.1) (3,(m:Int)-1) ⟨hB,Nat.le_refl _,by show -1<=(m:Int)-1;omega,Int.le_refl _⟩
  (Za zp zp) ?_
 try clear hB
 rintro⟨k,last⟩ ⟨hB,hk3,hl1,hl2⟩ L6 hL6
 replace hB:res=match Zem (Zeh s.l f) n k last with|none => -1|some q=>q+1:=hB
 replace hk3:k<=3:=hk3
 replace hl1 : -1<=last:=hl1
 replace hl2:last<=(m:Int)-1:=hl2
 refine Z1 ?_
 cases k with
 |zero=>
  refine Z ?_
  rw[hB,w64 zo zo]<;>rfl
 |succ k=>
 have e8:decide (((k+1:Nat):Int)-1>=0)=true:=zT;rw[Zem]at hB;refine Zi rfl (λh8=>?_) (λh8=>?_);rotate_left;rw[e8]at h8;cases h8;refine Z0 ?_;have ek:((k+1:Nat):Int)-1=(k:Int):=zo;rw[ek];have hwk:IntKind.i64.wrap ((k:Int)-1)=(k:Int)-1:=w64 zo zo
 have hpl:([.int .i64 n.a,.int .i64 n.b,.int .i64 n.c]:List V)[k]?=some (.int .i64 (Zit n k)):=by
  match k,hk3 with
  |0,_=>rfl
  |1,_=>rfl
  |2,_=>rfl
 have hklt:(k:Int)<3:=zo;generalize Zit n k=pl at hB hpl;refine Z1 ?_;refine Zc hG ?_ (s:=(Zft G hG n.op));generalize hpo:Zy n.op=po at hB⊢
 by_cases hkp:k<po
 .have e5:decide ((k:Int)>=(po:Int))=false:=zF
  have hbs:Nat.blt k po=true:=zu hkp;rw[hbs]at hB;refine Zi rfl (λh11=>?_) (λh11=>?_);rw[e5]at h11;cases h11;refine Z0 ?_;refine Z4 ?_
  by_cases hpe:pl=last
  rotate_left;have e6:(pl != last)=true:=zu hpe;rw[Zxca hpe]at hB;refine Z1f (zi @Nat.mul_one (zi hpl (zi hklt (zi @Int.natCast_nonneg e6)))) ?_;refine Zi rfl (λh13=>?_) (λh13=>?_);refine Z ?_;rw[hB];cases h13;have e6:(pl != last)=false:=zu hpe;refine Z1f (zi @Nat.mul_one (zi hpl (zi hklt (zi @Int.natCast_nonneg e6)))) ?_;refine Z1 ?_;refine Zcf @Zfa hG ?_ (s:=(ih c.ent last zo zo zo));have hge:=Z2ja s.l f last;have hle:=begR_le s.l f last;refine Z4 ?_
  by_cases hr0:Zeh s.l f last<0
  have e7:decide (Zeh s.l f last<0)=true:=zu hr0;rw[Z82 hpe hr0]at hB;refine Z1f e7 ?_;refine Zi rfl (λh15=>?_) (λh15=>?_);refine Z ?_;rw[hB];cases h15;have e7:decide (Zeh s.l f last<0)=false:=zu hr0;rw[Z72 hpe hr0]at hB;refine Z1f e7 ?_;refine Z0 ?_;have hle2:=hle zo;generalize Zeh s.l f last=r at hB hge hle2 hr0⊢;have hwr:IntKind.i64.wrap (r-1)=r-1:=w64 zo zo;refine Z1f hwr ?_;refine Z1f hwk ?_;refine hL6 _ ⟨(k,r-1),by show k<k+1;omega,⟨hB,by show k<=3;omega,by show -1<=r-1;omega,by show r-1<=(m:Int)-1;omega⟩,Za zp zp⟩
 .have e5:decide ((k:Int)>=(po:Int))=true:=zT
  have hbs:Nat.blt k po=false:=by
   rw[Bool.eq_false_iff];simpa using hkp
  rw[hbs]at hB;refine Zi rfl (λh11=>?_) (λh11=>?_);rotate_left;rw[e5]at h11;cases h11;refine Z4 ?_
  by_cases hpe:pl = -1
  rotate_left;have e6:(pl != -1)=true:=zu hpe;rw[bsNo hpe]at hB;refine Z1f (zi @Nat.mul_one (zi hpl (zi hklt (zi @Int.natCast_nonneg e6)))) ?_;refine Zi rfl (λh13=>?_) (λh13=>?_);refine Z ?_;rw[hB];cases h13;have e6:(pl != -1)=false:=zu hpe;rw[bsNone hpe]at hB;refine Z1f (zi @Nat.mul_one (zi hpl (zi hklt (zi @Int.natCast_nonneg e6)))) ?_;refine Z1f hwk ?_;refine hL6 _ ⟨(k,last),by show k<k+1;omega,⟨hB,by show k<=3;omega,hl1,hl2⟩,Za zp zp⟩
def dep0(s:Sl XN)(G:Nat->V)(i d:Int):Prop:=∀ c,Spec Tryz.prog G 314 [Zb c 6 Zxa s,.int .i64 i] Zk (λv _=>v=.int .i64 d)
theorem Z3e(G:Nat->V)(hG:GOk G)(s:Sl XN):dep0 s G (-1) 0:=by
 intro c;refine Zo 0 30 [.tmp 4] Tryz.func314 λX=>?_;refine Z1 ?_;refine Z1 ?_;refine Zi rfl (λh2=>?_) (λh2=>?_);exact Zr;cases h2
theorem Z1g(G:Nat->V)(hG:GOk G)(s:Sl XN)(m:Nat)(n:XN)(hg:s.l[m]?=some n)(d0 d1 d2:Int)(h0:dep0 s G n.a d0)(h1:dep0 s G n.b d1)(h2:dep0 s G n.c d2)(hb:(0<=d0/\d0<1000000)/\(0<=d1/\d1<1000000)/\(0<=d2/\d2<1000000)):
  dep0 s G m (max (max d0 d1) d2+1):=by
 intro c;refine Zo 0 30 [.tmp 4] Tryz.func314 λX=>?_;refine Z1 ?_;refine Z4 ?_;have e1:decide ((m:Int)<0)=false:=zF;refine Z1f e1 ?_;refine Z0 ?_
 have pc:∀ i d,dep0 s G i d->Z7i Tryz.prog G 314 [Zb c 6 Zxa s,.int .i64 i] (.int .i64 d):=λi d h=>⟨by kernel_rfl,by
  simp only[List.map_cons,List.map_nil,Zfa,Zcc];refine(h c.ent).mono ?_;rintro _ _ rfl
  rfl⟩
 have hmx:(if d2>(if d1>d0 then d1 else d0)then d2 else(if d1>d0 then d1 else d0))=max (max d0 d1) d2:=by
  rw[Int.max_def,Int.max_def]
  split<;>split<;>split<;>omega
 have hw:IntKind.i64.wrap (1+max (max d0 d1) d2)=max (max d0 d1) d2+1:=by rw[w64 zo zo];omega
 refine Z4<|Zw ⟨λi=>if i=6 then .int .i64 d0 else if i=13 then .int .i64 d1 else if i=20 then .int .i64 d2 else .top,λ_=>.pure⟩ zk hG zk zk ?_
 refine Zsf (zi hg (zi @Z5a (zi hmx hw))) ?_;refine⟨pc _ _ h0,pc _ _ h1,pc _ _ h2,?_⟩;exact Zr
theorem Zfd:∀ x:X,x.depth<=x.size
 |.leaf .. => Nat.le_refl _
 |.un _ a=>by have:=Zfd a;simp only[X.depth,X.size];omega
 |.bin _ a b=>by have:=Zfd a;have:=Zfd b;simp only[X.depth,X.size];omega
 |.ite a b c=>by have:=Zfd a;have:=Zfd b;have:=Zfd c;simp only[X.depth,X.size];omega
theorem Zlm{l:List XN}{x:X}{b:Nat}(h:At l x b):b+x.size<=l.length:=by
 obtain⟨pre,post,rfl,hb⟩:=h;rw[List.length_append,List.length_append,X.row_len];omega
theorem Zff(G:Nat->V)(hG:GOk G)(s:Sl XN)(hs:s.l.length<1000000):∀ (x:X) (b:Nat),At s.l x b->dep0 s G ((b:Int)+x.size-1) x.depth
 |.leaf op num name,b,h=>by
  have:=Z1g G hG s b _ h.get 0 0 0 (Z3e G hG s) (Z3e G hG s) (Z3e G hG s) ⟨zd,zd,zd⟩
  have e:(b:Int)+(X.leaf op num name).size-1=(b:Nat):=by simp only[X.size];omega
  rw[e];exact this
 |.un op a,b,h=>by
  have ha:=h.un;have ih:=Zff G hG s hs a b ha;have hz:=Zlm h;have hd:=Zfd a;have hp:=a.size_pos;have:=Z1g G hG s _ _ h.get _ 0 0 ih (Z3e G hG s) (Z3e G hG s) ⟨⟨zo,by simp only[X.size]at hz;omega⟩,zd,zd⟩
  have e:(b:Int)+(X.un op a).size-1=((b+(X.un op a).size-1:Nat):Int):=by simp only[X.size];omega
  rw[e]
  have e2:((X.un op a).depth:Int)=max (max (a.depth:Int) 0) 0+1:=by simp only[X.depth];omega
  rw[e2];exact this
 |.bin op x y,b,h=>by
  obtain⟨hx,hy⟩:=h.bin;have ihx:=Zff G hG s hs x b hx;have ihy:=Zff G hG s hs y (b+x.size) hy;have hz:=Zlm h;have hd1:=Zfd x;have hd2:=Zfd y;have hp1:=x.size_pos;have hp2:=y.size_pos;have e3:((b+x.size:Nat):Int)+y.size-1=(b:Int)+x.size+y.size-1:=zo;rw[e3]at ihy;simp only[X.size]at hz;have:=Z1g G hG s _ _ h.get _ _ 0 ihx ihy (Z3e G hG s) ⟨⟨zo,zo⟩,⟨zo,zo⟩,zd⟩
  have e:(b:Int)+(X.bin op x y).size-1=((b+(X.bin op x y).size-1:Nat):Int):=by simp only[X.size];omega
  rw[e]
  have e2:((X.bin op x y).depth:Int)=max (max (x.depth:Int) y.depth) 0+1:=by simp only[X.depth];omega
  rw[e2];exact this
 |.ite x y z,b,h=>by
  obtain⟨hx,hy,hz'⟩:=h.ite;have ihx:=Zff G hG s hs x b hx;have ihy:=Zff G hG s hs y (b+x.size) hy;have ihz:=Zff G hG s hs z (b+x.size+y.size) hz';have hz:=Zlm h;have hd1:=Zfd x;have hd2:=Zfd y;have hd3:=Zfd z;have hp1:=x.size_pos;have hp2:=y.size_pos;have hp3:=z.size_pos;have e3:((b+x.size:Nat):Int)+y.size-1=(b:Int)+x.size+y.size-1:=zo;rw[e3]at ihy;have e4:((b+x.size+y.size:Nat):Int)+z.size-1=(b:Int)+x.size+y.size+z.size-1:=zo;rw[e4]at ihz;simp only[X.size]at hz;have:=Z1g G hG s _ _ h.get _ _ _ ihx ihy ihz ⟨⟨zo,zo⟩,⟨zo,zo⟩,⟨zo,zo⟩⟩
  have e:(b:Int)+(X.ite x y z).size-1=((b+(X.ite x y z).size-1:Nat):Int):=by simp only[X.size];omega
  rw[e]
  have e2:((X.ite x y z).depth:Int)=max (max (x.depth:Int) y.depth) z.depth+1:=by simp only[X.depth];omega
  rw[e2];exact this
theorem Z7o(G:Nat->V)(hG:GOk G)(c:Col)(s:Sl XN)(hs:s.l.length<1000000)(hnm:∀ n∈s.l,n.name.length<100000):
  Spec Tryz.prog G 293 [Zb c 6 Zxa s] Zk (λv _=>v=.bool (Zvv s.l)):=by
 refine Zo 0 9 [.tmp 2] Tryz.func293 λX=>?_;have hw:IntKind.i64.wrap ((s.l.length:Int)-1)=(s.l.length:Int)-1:=w64 zo zo;refine Z1 ?_;refine Z1f hw ?_;refine Zcf @Zfa hG ?_ (s:=(Z51 G hG s hs hnm s.l.length c.ent ((s.l.length:Int)-1) zo zo zo));exact Zr
theorem Zum(G:Nat->V)(hG:GOk G)(c:Col)(s:Sl XN)(hs:s.l.length<1000000)(hnm:∀ n∈s.l,n.name.length<100000):
  Spec Tryz.prog G 292 [Zb c 6 Zxa s] Zk (λv _=>v=.int .i64 (Zkb s.l)):=by
 refine Zo 0 11 [.tmp 2] Tryz.func292 λX=>?_;have hw:IntKind.i64.wrap ((s.l.length:Int)-1)=(s.l.length:Int)-1:=w64 zo zo;refine Z1 ?_;refine Z1 ?_;refine Zcf @Zfa hG ?_ (s:=(Z7o G hG c.ent s hs hnm))
 cases hr:Zvv s.l with
 |false=>
  have hd:Zkb s.l=0:=by
   have:=Z0o s.l;rw[hr]at this;have h2:=of_decide_eq_false this.symm;exact Classical.byContradiction h2
  refine Zi rfl (λh6=>?_) (λh6=>?_);refine Z ?_;rw[hd];cases h6
 |true=>
 refine Z0 ?_;obtain⟨x,hx,hl⟩:=Zxr.1 hr;have hat:At s.l x 0:=hl ▸ Zco x
 have hdep:Zkb s.l=x.depth:=by rw[hl,Z5w hx]
 have hlen:s.l.length=x.size:=by rw[hl,Go.Hs.X.row_len]
 have hsp:=Zff G hG s hs x 0 hat;rw[show((0:Nat):Int)+x.size-1=(s.l.length:Int)-1 by omega]at hsp;refine Z1f hw ?_;refine Zcf @Zfa hG ?_ (s:=(hsp c.ent));refine Z ?_;rw[hdep]
def Zic(l:List XN):Int:=if Zkb l=0 then 2 else if Zkb l>64 then 3 else 0
theorem Z8o(G:Nat->V)(hG:GOk G)(c:Col)(s:Sl XN)(hs:s.l.length<1000000)(hnm:∀ n∈s.l,n.name.length<100000):
  Spec Tryz.prog G 274 [Zb c 6 Zxa s] Zk (λv _=>v=.int .i64 (Zic s.l)):=by
 refine Zo 0 9 [.tmp 2] Tryz.func274 λX=>?_
 have hC:Zic s.l=if Zkb s.l=0 then 2 else if Zkb s.l>64 then 3 else 0:=rfl
 generalize Zic s.l=res at hC⊢;refine Z1 ?_;refine Z1 ?_;refine Zcf @Zfa hG ?_ (s:=(Z7o G hG c.ent s hs hnm));rw[Z0o]
 by_cases hd:Zkb s.l=0
 rw[if_pos hd]at hC;have e1:decide (Zkb s.l≠0)=false:=zu hd;rw[e1];refine Zi rfl (λh6=>?_) (λh6=>?_);refine Z ?_;rw[hC];cases h6;have e1:decide (Zkb s.l≠0)=true:=zu hd;rw[if_neg hd]at hC;rw[e1];refine Z1 ?_;refine Zcf @Zfa hG ?_ (s:=(Zum G hG c.ent s hs hnm));refine Zi rfl (λh7=>?_) (λh7=>?_);have h7:Zkb s.l>64:=zu h7;rw[if_pos h7]at hC;refine Z ?_;rw[hC];have h7:¬ Zkb s.l>64:=zu h7;rw[if_neg h7]at hC;refine Z ?_;rw[hC]
theorem Zjj(G:Nat->V)(hE:GExp G)(c:Col)(s:Sl XN)(hs:s.l.length<1000000)(hnm:∀ n∈s.l,n.name.length<100000):
  Spec Tryz.prog G 281 [.agg [Zb c 6 Zxa s]] Zk (λv _=>v=.int .i64 (Zic s.l)):=by
 have hG:=hE.ok;refine Zo 0 12 [.tmp 2] Tryz.func281 λX=>?_
 have hC:Zic s.l=if Zkb s.l=0 then 2 else if Zkb s.l>64 then 3 else 0:=rfl
 generalize Zic s.l=res at hC⊢;refine Z1 ?_;intro g1;refine Z1 ?_;refine Zcf @Zfa hG ?_ (s:=(Zeo G hE c.ent s hs hnm));refine Z1 ?_;refine Zi rfl (λh6=>?_) (λh6=>?_);have h6:Zkb s.l=0:=zu h6;rw[if_pos h6]at hC;refine Z ?_;rw[hC];have h6:¬ Zkb s.l=0:=zu h6;rw[if_neg h6]at hC;refine Z1 ?_;refine Zi rfl (λh7=>?_) (λh7=>?_);have h7:Zkb s.l>64:=zu h7;rw[if_pos h7]at hC;refine Z ?_;rw[hC];have h7:¬ Zkb s.l>64:=zu h7;rw[if_neg h7]at hC;refine Z ?_;rw[hC]
end Go.Hs
end

section
namespace Go.Hs
def NmQ(Q:List UInt8->Prop)(r:RS):Prop:=∀ n∈r.nodes,Q n.name
def NmI(Q:List UInt8->Prop)(inner:Inner):Prop:=∀ n r,NmQ Q r->NmQ Q (inner n r).2
theorem NmQ.put{Q:List UInt8->Prop}{r:RS}{n:XN}(h:NmQ Q r)(hn:Q n.name):NmQ Q (r.put n):=by
 intro m hm
 rcases List.mem_append.1 hm with h1|h1
 exact h m h1;rw[List.mem_singleton.1 h1];exact hn
theorem Zgc{Q:List UInt8->Prop}{x:Bool×RS}{k:RS->Bool×RS}(h:NmQ Q x.2)(hk:∀ r,NmQ Q r->NmQ Q (k r).2):NmQ Q (andThen x k).2:=by
 obtain⟨b,r⟩:=x;cases b;exact h;exact hk r h
theorem Z3p{Q:List UInt8->Prop}(l:List Tk)(w:List UInt8){r:RS}(h:NmQ Q r):NmQ Q (Zxi l w r).2:=by
 unfold Zxi;split<;>exact h
theorem Zkba{Q:List UInt8->Prop}(h0:Q [])(t:List UInt8){r:RS}(h:NmQ Q r):NmQ Q (Z4d r t).2:=by
 unfold Z4d;split;exact h;exact NmQ.put (n:=⟨1,_,[],-1,-1,-1⟩) h h0
theorem Zex{Q:List UInt8->Prop}{l:List Tk}{inner:Inner}(h0:Q [])(hi:NmI Q inner){r:RS}(h:NmQ Q r):NmQ Q (Zyb l inner r).2:=by
 unfold Zyb;refine Zgc (Z3p _ _ h) λr1 h1=>Zgc (hi _ _ h1) λa h2=>Zgc (Z3p _ _ h2) λr2 h3=>Zgc (hi _ _ h3) λb h4=>Zgc (Z3p _ _ h4) λr3 h5=>Zgc (hi _ _ h5) λc h6=>Zgc (Z3p _ _ h6) λr4 h7=>?_;exact NmQ.put h7 h0
theorem Z5ja{Q:List UInt8->Prop}{l:List Tk}{inner:Inner}(h0:Q [])(hq:∀ i,(Zea l i).kind=2->Q (Zea l i).text)(hi:NmI Q inner){r:RS}(h:NmQ Q r):NmQ Q (Z1d l inner r).2:=by
 unfold Z1d
 split
 exact Zkba h0 _ h
 split
 rename_i hk;exact NmQ.put (n:=⟨2,0,(Zea l r.i).text,-1,-1,-1⟩) h (hq _ hk)
 split
 exact h
 split
 exact Zgc (hi _ _ h) λa ha=>NmQ.put ha h0
 split
 exact Zgc (hi _ _ h) λa ha=>Z3p _ _ ha
 split
 exact Zex h0 hi h
 split
 exact NmQ.put (n:=⟨_,0,[],-1,-1,-1⟩) h h0;exact h
theorem Z18{Q:List UInt8->Prop}{l:List Tk}{inner:Inner}(h0:Q [])(hi:NmI Q inner)(n:Int):∀ (m:Nat) (r:RS),NmQ Q r->NmQ Q (Z6d l inner n m r).2
 |0,r,h=>h
 |m+1,r,h=>by
  rw[Z6d]
  split
  exact h
  split
  exact h;exact Zgc (hi _ r.adv h) λa ha=>Z18 h0 hi n m (a.put _) (NmQ.put ha h0)
theorem Zaq{Q:List UInt8->Prop}(l:List Tk)(h0:Q [])(hq:∀ i,(Zea l i).kind=2->Q (Zea l i).text):∀ f,NmI Q (Zga l f)
 |0=>λ_ _ h=>h
 |f+1=>λn r h=>by
  rw[Zga];exact Zgc (Z5ja h0 hq (Zaq l h0 hq f) h) λa ha=>Z18 h0 (Zaq l h0 hq f) n _ a ha
end Go.Hs
end

section
namespace Go.Hs
open Go.Proofs
set_option maxRecDepth 10000
theorem Z10{NO:Nat}{tl:List V}{G:Nat->V}(hG:GOk G){f:FuncId}{args args':List V}{sl:Sl Tk}{g:Nat}{r r':RS}{v:V}(h:RdS NO tl G f args' sl g r v r'){H:Heap}{K:V->Heap->Prop}
  (hen:Zia Tryz.prog f=true) (htl:∀ F:Col->Col,tl.map (V.recol F)=tl) (hargs:args.map (V.recol Col.ent)=args') (hv:v.recol Col.bk=v) (hr:r.nodes=[])
  (cs:List V) (h8:H 8=.cells .new g 0 cs) (hcs:Z8a Col.ent cs=(Zb .any 3 Zeb sl::.int .i64 r.i::.nils::.int .i64 r.e::tl)) (hN:H NO=.dead)
  (hk:∀ gx',K v (Zab H [(8,.cells .new g 0 (Zb .any 3 Zeb sl::.int .i64 r'.i::grown NO gx' 6 r'.nodes::.int .i64 r'.e::tl)),(NO,Zza gx' Zxa r'.nodes)])):
  CallA Tryz.prog G f (.ptr 8 g 0::args) H K:=by
 refine Z17 hG [(8,rdO NO tl sl g 0 r),(NO,ndO 0 r.nodes)] hen ?_ ?_ ?_;intro p hp;simp only[List.mem_cons,List.not_mem_nil,or_false]at hp
 rcases hp with rfl|rfl
 simp only[h8,AObj.toAny,hcs,Zva,hr];rfl;simp only[hN,AObj.toAny,hr];rfl;intro p hp c g' fz cs' ho;simp only[List.mem_cons,List.not_mem_nil,or_false]at hp
 rcases hp with rfl|rfl
 simp only[h8,AObj.cells.injEq]at ho;exact ho.1.symm;simp only[hN]at ho;cases ho
 .have ha:(V.ptr 8 g 0::args).map (V.recol Col.ent)=.ptr 8 g 0::args':=by rw[List.map_cons,Zsh,hargs]
  rw[ha];refine(h 0).mono ?_;rintro _ H' ⟨rfl,gx',q8,qN⟩
  have b8:(rdO NO tl sl g gx' r').backNew=.cells .new g 0 (Zb .any 3 Zeb sl::.int .i64 r'.i::grown NO gx' 6 r'.nodes::.int .i64 r'.e::tl):=by
   simp only[Zva,AObj.backNew,Z8,List.map_cons,Zta,Zcc,Z3d,htl];rfl
  have bN:(ndO gx' r'.nodes).backNew=Zza gx' Zxa r'.nodes:=by
   unfold ndO
   cases hn:r'.nodes with
   |nil=>rfl
   |cons x t=>
    rw[Zyk _ _ _ zS,Z0c _ _ zS];simp only[AObj.backNew,Z8];rw[<- Z5e,List.map_map];have he:(x::t).map (V.recol Col.bk∘Zxa)=(x::t).map Zxa:=List.map_congr_left λy _=>Zhi _ y
    first|done|rw[he]
  simp only[List.map_cons,List.map_nil,q8,qN,b8,bN,hv];exact hk gx'
def encXs(c:Col)(l:List XN):V:=Zb c 6 Zxa (Zl l)
def encFr(c:Col)(p:List XN×Int×Int):V:=.tuple [.agg [encXs c p.1],.int .i64 p.2.1,.int .i64 p.2.2]
theorem Zch{l:List Tk}(hT:TkOk l):∀ n∈(Zga l (l.length+1) 1 ⟨0,[],0⟩).2.nodes,n.name.length<100000:=
 Zaq (Q:=λs=>s.length<100000) l (Nat.zero_lt_succ _) (λi _=>Zlp hT i) _ _ _ (λn hn=>by cases hn)
theorem Znr(G:Nat->V)(hE:GExp G)(c:Col)(sl:Sl Tk)(hT:TkOk sl.l):Spec Tryz.prog G 257 [Zb c 3 Zeb sl] Zk (λv _=>v=encFr .new (Zhb sl.l)):=by
 have hG:=hE.ok;have hTl:=hT.len;refine Zo 0 44 [.cell 2 197,.tmp 3,.tmp 4] Tryz.func257 λX=>?_
 have hP:Zhb sl.l=if(Zga sl.l (sl.l.length+1) 1 ⟨0,[],0⟩).1=false then(([]:List XN),((Zga sl.l (sl.l.length+1) 1 ⟨0,[],0⟩).2.i:Int),(Zga sl.l (sl.l.length+1) 1 ⟨0,[],0⟩).2.e)
  else if Zkb (Zga sl.l (sl.l.length+1) 1 ⟨0,[],0⟩).2.nodes>64 then([],0,3)else((Zga sl.l (sl.l.length+1) 1 ⟨0,[],0⟩).2.nodes,((Zga sl.l (sl.l.length+1) 1 ⟨0,[],0⟩).2.i:Int),(0:Int)):=rfl
 have hr0:Zel sl.l ⟨0,[],0⟩:=⟨Nat.zero_le _,Nat.le_refl _⟩;have hcl:=λg=>Zb1 G hE sl hT g (sl.l.length+1) 1 ⟨0,[],0⟩ zd zd (Nat.lt_succ_self _) hr0;have hnm2:=Zch hT;have hok:=(Z4b sl.l (sl.l.length+1) 1 ⟨0,[],0⟩);generalize Zhb sl.l=res at hP⊢;generalize Zga sl.l (sl.l.length+1) 1 ⟨0,[],0⟩=y at hP hcl hok hnm2;obtain⟨b,r⟩:=y;simp only at hP hcl hok hnm2;refine Z1 ?_;intro g2;refine Z1 ?_;intro g8;refine Z4 ?_;refine AW.block ?_;refine AW.weak (Zt (λ_=>false) (l:=[(5,.ptr 8 g8 0),(2,.ptr 2 g2 0)]) (m:=[(2,.cells .new g2 0 [.nils]),(8,.cells .new g8 0 [Zb .any 3 Zeb sl,.int .i64 0,.nils,.int .i64 0,.func (.func 279) [] []])]) ?_ ?_) ?_;refine Zs ?_;exact⟨Fz.same _,Fz.same _⟩;simp only[Zv,Zz,and_true];exact⟨FzO.keep rfl zp,FzO.of (c:=.new) (fz:=0) (cs:=[Zb c 3 Zeb sl,.int .i64 0,.nils,.int .i64 0,.func (.func 279) [] []]) rfl zp ⟨Fz.any (Zta _ _ _),Fz.same _,Fz.same _,Fz.same _,Fz.same _,trivial⟩⟩;refine Z1 ?_;refine Z10 hG (hcl g8) zk (λF=>rfl) rfl rfl rfl _ zp (by simp only[Z8,List.map_cons,List.map_nil,Zta];rfl) zp λgx=>?_;refine Zu ?_
 cases b with
 |false=>
  refine Ztc rfl ?_;refine AW.weak (Zt (λo=>o==8) (l:=[(5,.view .new (.agg [Zb .any 3 Zeb sl,.int .i64 r.i,grown 1031 gx 6 r.nodes,.int .i64 r.e,.func (.func 279) [] []])),(2,.ptr 2 g2 0)]) (m:=[(2,.cells .new g2 0 [.nils])]) ?_ ?_) ?_;refine Zs ?_;exact⟨Fz.ptr (v:=.agg [Zb .any 3 Zeb sl,.int .i64 r.i,grown 1031 gx 6 r.nodes,.int .i64 r.e,.func (.func 279) [] []]) (c:=.new) (fz:=0) rfl zp,Fz.same _⟩;simp only[Zv,Zz,and_true];exact FzO.keep rfl zp;refine Z4 ?_;refine Zw ⟨λ_=>.top,λi=>if i=4 then .lend else if i=8 then .lend else .pure⟩ zk hG zk zk ?_;refine Zs ?_;refine Z ?_
  rw[hP]<;>rfl
 |true=>
 refine Zbb rfl ?_;refine AW.weak (Zt (λo=>o==1031) (l:=[(5,.ptr 8 g8 0),(2,.ptr 2 g2 0)]) (m:=[(2,.cells .new g2 0 [.nils]),(8,.cells .new g8 0 [Zb .any 3 Zeb sl,.int .i64 r.i,encXs .new r.nodes,.int .i64 r.e,.func (.func 279) [] []])]) ?_ ?_) ?_;refine Zs ?_;exact⟨Fz.same _,Fz.same _⟩;simp only[Zv,Zz,and_true];exact⟨FzO.keep rfl zp,FzO.of (c:=.new) (fz:=0) (cs:=[Zb .any 3 Zeb sl,.int .i64 r.i,grown 1031 gx 6 r.nodes,.int .i64 r.e,.func (.func 279) [] []]) rfl zp ⟨Fz.same _,Fz.same _,Z3a rfl zp Z9d,Fz.same _,Fz.same _,trivial⟩⟩
 have hrl:r.nodes.length<1000000:=by have:=(hok.ok hr0);have h1:=this.1;have h2:=this.2;omega
 rw[if_neg zS]at hP;refine Z1f @encXs.eq_1 ?_;refine Zcf @Zfa hG ?_ (s:=(Zeo G hE Col.new.ent (Zl r.nodes) (by rw[Zm];exact hrl) (by rw[Zm];exact hnm2)));refine Zi rfl (λh26=>?_) (λh26=>?_);have h26:Zkb r.nodes>64:=zu h26;rw[if_pos h26]at hP;refine Z ?_
 rw[hP]<;>rfl
 have h26:¬ Zkb r.nodes>64:=zu h26;rw[if_neg h26]at hP;refine Z0 ?_;refine AW.weak (Zt (λo=>o==8) (l:=[(5,.view .new (.agg [Zb .any 3 Zeb sl,.int .i64 r.i,encXs .new r.nodes,.int .i64 r.e,.func (.func 279) [] []])),(2,.ptr 2 g2 0)]) (m:=[(2,.cells .new g2 0 [.nils])]) ?_ ?_) ?_;refine Zs ?_;exact⟨Fz.ptr (v:=.agg [Zb .any 3 Zeb sl,.int .i64 r.i,encXs .new r.nodes,.int .i64 r.e,.func (.func 279) [] []]) (c:=.new) (fz:=0) rfl zp,Fz.same _⟩;simp only[Zv,Zz,and_true];exact FzO.keep rfl zp;refine Z4 ?_;refine Zw ⟨λ_=>.top,λi=>if i=3 then .lend else if i=8 then .lend else .pure⟩ zk hG zk zk ?_;refine Zsf @encXs.eq_1 ?_;refine Z ?_
 rw[hP]<;>rfl
theorem Zqr:∀ (f:Nat) (s:List UInt8) (i:Nat) (acc:List Tk),(∀ t∈acc,t.text.length<=s.length)->∀ t∈(Zyd f s i acc).1,t.text.length<=s.length
 |0,s,i,acc,h=>by rw[Zyd];exact h
 |f+1,s,i,acc,h=>by
  rw[Zyd]
  split
  split
  intro t ht;cases ht;refine Zqr f s _ _ ?_;intro t ht
  rcases List.mem_append.1 ht with h1|h1
  exact h t h1;rw[List.mem_singleton.1 h1]
  show((s.drop i).take _).length<=s.length
  rw[List.length_take,List.length_drop];omega;exact h
theorem Zml{s:List UInt8}(hs:s.length<100000):TkOk (Zja s).1:=by
 unfold Zja
 split
 exact⟨Nat.zero_lt_succ _,λt ht=>by cases ht⟩;refine⟨?_,?_⟩;have:=Zfv (s.length+1) s (blk s) [];have h0:([]:List Tk).length=0:=rfl;omega;intro t ht;have:=Zqr (s.length+1) s (blk s) [] (λt ht=>by cases ht) t ht;omega
theorem Za1(G:Nat->V)(hE:GExp G)(s:List UInt8)(hs:s.length<100000):Spec Tryz.prog G 216 [.str s] Zk (λv _=>v=encFr .new (Zjd s)):=by
 have hG:=hE.ok;refine Zo 0 60 [.cell 2 197,.tmp 3,.tmp 4] Tryz.func216 λX=>?_
 have hP:Zjd s=if(Zja s).2.2≠0 then(([]:List XN),(Zja s).2.1,(Zja s).2.2)
  else if(Zhb (Zja s).1).2.2=3 then([],0,3)
  else if(Zhb (Zja s).1).2.2=0/\(Zhb (Zja s).1).2.1=((Zja s).1.length:Nat)then((Zhb (Zja s).1).1,0,0)
  else([],if(Zhb (Zja s).1).2.1=((Zja s).1.length:Nat)then(s.length:Int)else((Zja s).1.getD (Zhb (Zja s).1).2.1.toNat ⟨0,[],0⟩).pos,if(Zhb (Zja s).1).2.2=0 then 80 else(Zhb (Zja s).1).2.2):=rfl
 generalize Zjd s=res at hP⊢;have hT:=Zml hs;have hl:=Zle G hE s hs;have hfr:=λc=>Znr G hE c (Zl (Zja s).1) (by rw[Zm];exact hT);simp only[Zm]at hfr;have hb:=Zlf (l:=(Zja s).1);generalize Zja s=t at hP hT hl hfr hb;generalize Zhb t.1=p at hP hfr hb;obtain⟨l,at0,e0⟩:=t;obtain⟨ns,i,e⟩:=p;simp only at hP hT hfr hb;refine Z1 ?_;intro g2;refine Z1 ?_;refine Zn hG ?_ (s:=hl);refine Zsf (zi @encTok.eq_1 (zi @encTks.eq_1 @Zta)) ?_;refine Z1 ?_
 by_cases he0:e0=0
 rotate_left;have q1:(e0 != 0)=true:=zu he0;rw[if_pos he0]at hP;refine Zi rfl (λh17=>?_) (λh17=>?_);refine Z ?_
 rw[hP]<;>rfl
 rw[q1]at h17;cases h17;have q1:(e0 != 0)=false:=zu he0;rw[if_neg (zu he0)]at hP;refine Zi rfl (λh17=>?_) (λh17=>?_);rw[q1]at h17;cases h17;refine Z1 ?_;refine Znf @Zta hG ?_ (s:=(hfr _));refine Zsf (zi @encFr.eq_1 (zi @encXs.eq_1 @Zfa)) ?_;intro g8;refine Z1 ?_
 by_cases he3:e=3
 have q3:(e==3)=true:=zu he3;rw[if_pos he3]at hP;refine Zi rfl (λh27=>?_) (λh27=>?_);refine Z ?_
 rw[hP,he3]<;>rfl
 rw[q3]at h27;cases h27;have q3:(e==3)=false:=zu he3;rw[if_neg he3]at hP;refine Zi rfl (λh27=>?_) (λh27=>?_);rw[q3]at h27;cases h27
 by_cases he:e=0
 have q4:(e==0)=true:=zu he
 by_cases hi:i=(l.length:Nat)
 have q5:(i==((l.length:Nat):Int))=true:=zu hi;rw[if_pos ⟨he,hi⟩]at hP;refine Z1f (zi q4 q5) ?_;refine Zi rfl (λh32=>?_) (λh32=>?_);refine Z ?_
 rw[hP]<;>rfl
 cases h32;have q5:(i==((l.length:Nat):Int))=false:=zu hi;rw[if_neg (λh=>hi h.2),if_neg hi,if_pos he]at hP;obtain⟨m,rfl⟩:∃ m:Nat,i=m:=⟨i.toNat,zo⟩;have hml:m<l.length:=zo;obtain⟨tk,htk⟩:∃ tk,l[m]?=some tk:=⟨_,List.getElem?_eq_getElem hml⟩
 have hgd:(l.getD ((m:Nat):Int).toNat ⟨0,[],0⟩)=tk:=by rw[Int.toNat_natCast,List.getD_eq_getElem?_getD,htk]<;>rfl
 rw[hgd]at hP;refine Z1f (zi q4 q5) ?_;refine Z1f q4 ?_;refine Z1 ?_;refine Z1f q5 ?_;refine Z0 ?_;refine Z4 ?_;refine Zw ⟨λ_=>.top,λi=>if i=5 then .lend else .pure⟩ zk hG zk zk ?_;refine Zsf (zi htk @Zdb) ?_;refine Z ?_
 rw[hP]<;>rfl
 have q4:(e==0)=false:=zu he;rw[if_neg (λh=>he h.1),if_neg he]at hP;refine Z1f q4 ?_;refine Z1f q4 ?_;refine Z0 ?_;refine Z4 ?_
 by_cases hi:i=(l.length:Nat)
 have q5:(i==((l.length:Nat):Int))=true:=zu hi;rw[if_pos hi]at hP;refine Z1f q5 ?_;refine Zi rfl (λh48=>?_) (λh48=>?_);refine Z ?_
 rw[hP]<;>rfl
 cases h48;have q5:(i==((l.length:Nat):Int))=false:=zu hi;rw[if_neg hi]at hP;obtain⟨m,rfl⟩:∃ m:Nat,i=m:=⟨i.toNat,zo⟩;have hml:m<l.length:=zo;obtain⟨tk,htk⟩:∃ tk,l[m]?=some tk:=⟨_,List.getElem?_eq_getElem hml⟩
 have hgd:(l.getD ((m:Nat):Int).toNat ⟨0,[],0⟩)=tk:=by rw[Int.toNat_natCast,List.getD_eq_getElem?_getD,htk]<;>rfl
 rw[hgd]at hP;refine Z1f q5 ?_;refine Z0 ?_;refine Z4 ?_;refine Zw ⟨λ_=>.top,λi=>if i=5 then .lend else .pure⟩ zk hG zk zk ?_;refine Zsf (zi htk @Zdb) ?_;refine Z ?_
 rw[hP]<;>rfl
end Go.Hs
end

section
namespace Go.Hs
inductive Sub:X->X->Nat->Prop where
 |refl (x:X):Sub x x 0
 |un {op:Int} {a y:X} {b:Nat}:Sub a y b->Sub (.un op a) y b
 |bin1 {op:Int} {a c y:X} {b:Nat}:Sub a y b->Sub (.bin op a c) y b
 |bin2 {op:Int} {a c y:X} {b:Nat}:Sub c y b->Sub (.bin op a c) y (a.size+b)
 |ite1 {a c d y:X} {b:Nat}:Sub a y b->Sub (.ite a c d) y b
 |ite2 {a c d y:X} {b:Nat}:Sub c y b->Sub (.ite a c d) y (a.size+b)
 |ite3 {a c d y:X} {b:Nat}:Sub d y b->Sub (.ite a c d) y (a.size+c.size+b)
def Z6j:X->List X
 |.leaf op num name=>[.leaf op num name]
 |.un op a=>Z6j a++[.un op a]
 |.bin op a c=>Z6j a++Z6j c++[.bin op a c]
 |.ite a c d=>Z6j a++Z6j c++Z6j d++[.ite a c d]
theorem Zvb:∀ x:X,(Z6j x).length=x.size
 |.leaf .. => rfl
 |.un _ a=>by simp[Z6j,X.size,Zvb a]
 |.bin _ a b=>by simp[Z6j,X.size,Zvb a,Zvb b];omega
 |.ite a b c=>by simp[Z6j,X.size,Zvb a,Zvb b,Zvb c];omega
theorem Sub.trans{x y z:X}{b c:Nat}(h:Sub x y b)(h2:Sub y z c):Sub x z (b+c):=by
 induction h with
 |refl=>simpa using h2
 |un _ ih=>exact .un (ih h2)
 |bin1 _ ih=>exact .bin1 (ih h2)
 |bin2 _ ih=>rw[Nat.add_assoc];exact .bin2 (ih h2)
 |ite1 _ ih=>exact .ite1 (ih h2)
 |ite2 _ ih=>rw[Nat.add_assoc];exact .ite2 (ih h2)
 |ite3 _ ih=>rw[Nat.add_assoc];exact .ite3 (ih h2)
theorem Sub.ok{x y:X}{b:Nat}(h:Sub x y b):x.ok=true->y.ok=true:=by
 induction h with
 |refl=>exact id
 |un _ ih=>intro h;simp[X.ok]at h;exact ih h.2
 |bin1 _ ih=>intro h;simp[X.ok]at h;exact ih h.1.2
 |bin2 _ ih=>intro h;simp[X.ok]at h;exact ih h.2
 |ite1 _ ih=>intro h;simp[X.ok]at h;exact ih h.1.1
 |ite2 _ ih=>intro h;simp[X.ok]at h;exact ih h.1.2
 |ite3 _ ih=>intro h;simp[X.ok]at h;exact ih h.2
theorem Sub.size{x y:X}{b:Nat}(h:Sub x y b):b+y.size<=x.size:=by
 induction h with
 |refl=>simp
 |un _ ih=>simp only[X.size];omega
 |bin1 _ ih=>simp only[X.size];omega
 |bin2 _ ih=>simp only[X.size];omega
 |ite1 _ ih=>simp only[X.size];omega
 |ite2 _ ih=>simp only[X.size];omega
 |ite3 _ ih=>simp only[X.size];omega
theorem Sub.depth{x y:X}{b:Nat}(h:Sub x y b):y.depth<=x.depth:=by
 induction h with
 |refl=>simp
 |un _ ih=>simp only[X.depth];omega
 |bin1 _ ih=>simp only[X.depth];omega
 |bin2 _ ih=>simp only[X.depth];omega
 |ite1 _ ih=>simp only[X.depth];omega
 |ite2 _ ih=>simp only[X.depth];omega
 |ite3 _ ih=>simp only[X.depth];omega
theorem Sub.at{x y:X}{b:Nat}(h:Sub x y b):∀ {l:List XN} {k:Nat},At l x k->At l y (k+b):=by
 induction h with
 |refl=>exact id
 |un _ ih=>intro l k h;exact ih h.un
 |bin1 _ ih=>intro l k h;exact ih h.bin.1
 |bin2 _ ih=>intro l k h;rw[<- Nat.add_assoc];exact ih h.bin.2
 |ite1 _ ih=>intro l k h;exact ih h.ite.1
 |ite2 _ ih=>intro l k h;rw[<- Nat.add_assoc];exact ih h.ite.2.1
 |ite3 _ ih=>intro l k h;rw[<- Nat.add_assoc,<- Nat.add_assoc];exact ih h.ite.2.2
theorem Z2la(x:X):(Z6j x)[x.size-1]?=some x:=by
 have:∃ l,Z6j x=l++[x]:=by
  cases x with
  |leaf=>exact⟨[],rfl⟩
  |un=>exact⟨_,rfl⟩
  |bin=>exact⟨_,rfl⟩
  |ite=>exact⟨_,rfl⟩
 obtain⟨l,h⟩:=this;have hl:=Zvb x;rw[h,List.length_append,List.length_singleton]at hl;rw[h,List.getElem?_append_right (by omega),show x.size-1-l.length=0 by omega];rfl
theorem Sub.get{x y:X}{b:Nat}(h:Sub x y b):(Z6j x)[b+y.size-1]?=some y:=by
 have hy:=y.size_pos
 induction h with
 |refl x=>rw[Nat.zero_add];exact Z2la x
 |@un op a y b h ih=>
  have:=h.size;have hl:=Zvb a;rw[Z6j,List.getElem?_append_left (by omega)];exact ih hy
 |@bin1 op a c y b h ih=>
  have:=h.size;have hl:=Zvb a;rw[Z6j,List.append_assoc,List.getElem?_append_left (by omega)];exact ih hy
 |@bin2 op a c y b h ih=>
  have:=h.size;have hl:=Zvb a;have hl2:=Zvb c;rw[Z6j,List.append_assoc,List.getElem?_append_right (by omega),List.getElem?_append_left (by omega),<- ih hy]
  congr 1;omega
 |@ite1 a c d y b h ih=>
  have:=h.size;have hl:=Zvb a;rw[Z6j,List.append_assoc,List.append_assoc,List.getElem?_append_left (by omega)];exact ih hy
 |@ite2 a c d y b h ih=>
  have:=h.size;have hl:=Zvb a;have hl2:=Zvb c;rw[Z6j,List.append_assoc,List.append_assoc,List.getElem?_append_right (by omega),List.getElem?_append_left (by omega),<- ih hy]
  congr 1;omega
 |@ite3 a c d y b h ih=>
  have:=h.size;have hl:=Zvb a;have hl2:=Zvb c;have hl3:=Zvb d;rw[Z6j,List.append_assoc,List.append_assoc,List.getElem?_append_right (by omega),List.getElem?_append_right (by omega),List.getElem?_append_left (by omega),<- ih hy]
  congr 1;omega
theorem Zlj:∀ (x:X) (i:Nat),i<x.size->∃ y b,Sub x y b/\b+y.size=i+1
 |.leaf op num name,i,h=>⟨_,0,.refl _,by simp only[X.size]at h⊢;omega⟩
 |.un op a,i,h=>by
  by_cases h1:i<a.size
  obtain⟨y,b,h2,h3⟩:=Zlj a i h1;exact⟨y,b,.un h2,h3⟩;exact⟨_,0,.refl _,by simp only[X.size]at h⊢;omega⟩
 |.bin op a c,i,h=>by
  by_cases h1:i<a.size
  obtain⟨y,b,h2,h3⟩:=Zlj a i h1;exact⟨y,b,.bin1 h2,h3⟩
  by_cases h1':i-a.size<c.size
  obtain⟨y,b,h2,h3⟩:=Zlj c (i-a.size) h1';exact⟨y,_,.bin2 h2,by omega⟩;exact⟨_,0,.refl _,by simp only[X.size]at h⊢;omega⟩
 |.ite a c d,i,h=>by
  by_cases h1:i<a.size
  obtain⟨y,b,h2,h3⟩:=Zlj a i h1;exact⟨y,b,.ite1 h2,h3⟩
  by_cases h1':i-a.size<c.size
  obtain⟨y,b,h2,h3⟩:=Zlj c (i-a.size) h1';exact⟨y,_,.ite2 h2,by omega⟩
  by_cases h1'':i-a.size-c.size<d.size
  obtain⟨y,b,h2,h3⟩:=Zlj d (i-a.size-c.size) h1'';exact⟨y,_,.ite3 h2,by omega⟩;exact⟨_,0,.refl _,by simp only[X.size]at h⊢;omega⟩
theorem Sub.top{x y:X}{b:Nat}(h:Sub x y b):(x.row 0)[b+y.size-1]?=some (y.top b):=by
 have:=(h.at (Zco x)).get;rw[Nat.zero_add]at this;exact this
theorem Z7fa(x:X)(i:Nat)(h:i<x.size):∃ y b,Sub x y b/\b+y.size=i+1/\(Z6j x)[i]?=some y/\(x.row 0)[i]?=some (y.top b):=by
 obtain⟨y,b,h1,h2⟩:=Zlj x i h
 have e:i=b+y.size-1:=by omega
 exact⟨y,b,h1,h2,e ▸ h1.get,e ▸ h1.top⟩
def kd(op:Int)(named:Bool)(a b c:Int):Int:=
 if op=1\/op=2/\named=true then 1
 else if op=3\/op=4 then 2
 else if op=5/\a=1\/7<=op/\op<=11/\a=1/\b=1 then 1
 else if 12<=op/\op<=15/\a=1/\b=1\/(op=16\/op=17)/\a=b/\a≠0 then 2
 else if op=6/\a=2\/18<=op/\op<=21/\a=2/\b=2 then 2
 else if op=22/\a=2/\b=c then b else 0
theorem Zvk{op:Int}{nm:Bool}{a b c:Int}(hb:0<=b/\b<=2):0<=kd op nm a b c/\kd op nm a b c<=2:=by
 unfold kd
 repeat' split
 all_goals omega
def Zme(names:List (List UInt8)):X->Int
 |.leaf op _ name=>kd op (names.contains name) 0 0 0
 |.un op a=>kd op (names.contains []) (Zme names a) 0 0
 |.bin op a b=>kd op (names.contains []) (Zme names a) (Zme names b) 0
 |.ite a b c=>kd 22 (names.contains []) (Zme names a) (Zme names b) (Zme names c)
theorem Zvj(names:List (List UInt8)):∀ x,0<=Zme names x/\Zme names x<=2
 |.leaf .. => Zvk (by decide)
 |.un .. => Zvk (by decide)
 |.bin _ a b=>Zvk (Zvj names b)
 |.ite a b c=>Zvk (Zvj names b)
def goX(names:List (List UInt8)):List X->Int->List Int->List Int×Int×Int
 |[],_,acc=>(acc,0,0)
 |y::r,i,acc=>if Zme names y=0 then([],i,90)else goX names r (i+1) (acc++[Zme names y])
def plc(ks:List Int)(i:Int):Int:=if i<0 then 0 else ks.getD i.toNat 0
def Zeg(names:List (List UInt8))(n:XN)(ks:List Int):Int:=kd n.op (names.contains n.name) (plc ks n.a) (plc ks n.b) (plc ks n.c)
def goN(names:List (List UInt8)):List XN->Int->List Int->List Int×Int×Int
 |[],_,acc=>(acc,0,0)
 |n::r,i,acc=>if Zeg names n acc=0 then([],i,90)else goN names r (i+1) (acc++[Zeg names n acc])
theorem Z81(ks:List Int):plc ks (-1)=0:=rfl
theorem Ztl{names:List (List UInt8)}{x y:X}{b i:Nat}(h:Sub x y b)(hi:b+y.size<=i):plc (((Z6j x).take i).map (Zme names)) ((b:Int)+y.size-1)=Zme names y:=by
 have hp:=y.size_pos;unfold plc;rw[if_neg (by omega),show((b:Int)+y.size-1).toNat=b+y.size-1 by omega];rw[List.getD_eq_getElem?_getD,List.getElem?_map,List.getElem?_take,if_pos (by omega),h.get];rfl
theorem Zhia{names:List (List UInt8)}{x y:X}{b i:Nat}(h:Sub x y b)(hi:b+y.size=i+1):Zeg names (y.top b) (((Z6j x).take i).map (Zme names))=Zme names y:=by
 cases y with
 |leaf op num name=>rfl
 |un op a=>
  have h1:Sub x a b:=h.trans (.un (.refl a));simp only[X.size]at hi;simp only[Zeg,X.top,Z81,Zme];rw[Ztl h1 (by omega)]
 |bin op a c=>
  have h1:Sub x a b:=h.trans (.bin1 (.refl a));have h2:Sub x c (b+(a.size+0)):=h.trans (.bin2 (.refl c));rw[Nat.add_zero]at h2;simp only[X.size]at hi;simp only[Zeg,X.top,Z81,Zme];have:=Ztl (names:=names) h2 (i:=i) (by omega);rw[show((b+a.size:Nat):Int)+c.size-1=(b:Int)+a.size+c.size-1 by omega]at this;rw[Ztl h1 (by omega),this]
 |ite a c d=>
  have h1:Sub x a b:=h.trans (.ite1 (.refl a));have h2:Sub x c (b+(a.size+0)):=h.trans (.ite2 (.refl c));have h3:Sub x d (b+(a.size+c.size+0)):=h.trans (.ite3 (.refl d));rw[Nat.add_zero]at h2 h3;simp only[X.size]at hi;simp only[Zeg,X.top,Z81,Zme];have q2:=Ztl (names:=names) h2 (i:=i) (by omega);rw[show((b+a.size:Nat):Int)+c.size-1=(b:Int)+a.size+c.size-1 by omega]at q2;have q3:=Ztl (names:=names) h3 (i:=i) (by omega);rw[show((b+(a.size+c.size):Nat):Int)+d.size-1=(b:Int)+a.size+c.size+d.size-1 by omega]at q3;rw[Ztl h1 (by omega),q2,q3]
theorem Zuia{names:List (List UInt8)}(x:X):∀ (m i:Nat),i+m=x.size->goN names ((x.row 0).drop i) i (((Z6j x).take i).map (Zme names))=goX names ((Z6j x).drop i) i (((Z6j x).take i).map (Zme names))
 |0,i,h=>by
  rw[List.drop_of_length_le (by rw[X.row_len];omega),List.drop_of_length_le (by rw[Zvb];omega)];rfl
 |m+1,i,h=>by
  obtain⟨y,b,h1,h2,h3,h4⟩:=Z7fa x i (by omega);obtain⟨q1,e1⟩:=List.getElem?_eq_some_iff.1 h3;obtain⟨q2,e2⟩:=List.getElem?_eq_some_iff.1 h4;rw[List.drop_eq_getElem_cons q2,List.drop_eq_getElem_cons q1,e1,e2,goN,goX,Zhia h1 h2];have ih:=Zuia (names:=names) x m (i+1) (by omega)
  have ht:((Z6j x).take (i+1)).map (Zme names)=((Z6j x).take i).map (Zme names)++[Zme names y]:=by
   rw[List.take_add_one,h3];simp
  rw[ht]at ih
  split
  rfl;exact ih
def PlOk(k:Nat)(n:XN):Prop:=Zqd n=true/\(0<Zy n.op->0<=n.a/\n.a<k)/\(1<Zy n.op->0<=n.b/\n.b<k)/\(2<Zy n.op->0<=n.c/\n.c<k) /\
 (¬ 0<Zy n.op->n.a = -1)/\(¬ 1<Zy n.op->n.b = -1)/\(¬ 2<Zy n.op->n.c = -1)
theorem Z2ma{x y:X}{b i:Nat}(hx:x.ok=true)(h:Sub x y b)(hi:b+y.size=i+1):PlOk i (y.top b):=by
 have hy:=h.ok hx
 cases y with
 |leaf op num name=>
  simp only[X.ok,Bool.and_eq_true,decide_eq_true_eq]at hy
  have hp:Zy op=0:=by unfold Zy;rw[if_pos hy.2]
  refine⟨hy.1,?_⟩;simp only[X.top,hp];exact⟨λh=>absurd h (by decide),λh=>absurd h (by decide),λh=>absurd h (by decide),λ_=>trivial,λ_=>trivial,λ_=>trivial⟩
 |un op a=>
  simp only[X.ok,Bool.and_eq_true,decide_eq_true_eq]at hy
  have hp:Zy op=1:=by unfold Zy;rw[if_neg (by omega),if_pos (by omega)]
  have hs:=a.size_pos;simp only[X.size]at hi;refine⟨Zvg (by omega) _ _ _,?_⟩;simp only[X.top,hp];exact⟨λ_=>by omega,λh=>absurd h (by decide),λh=>absurd h (by decide),λh=>absurd (by decide) h,λ_=>trivial,λ_=>trivial⟩
 |bin op a c=>
  simp only[X.ok,Bool.and_eq_true,decide_eq_true_eq]at hy
  have hp:Zy op=2:=by unfold Zy;rw[if_neg (by omega),if_neg (by omega),if_pos (by omega)]
  have hs:=a.size_pos;have hs2:=c.size_pos;simp only[X.size]at hi;refine⟨Zvg (by omega) _ _ _,?_⟩;simp only[X.top,hp];exact⟨λ_=>by omega,λ_=>by omega,λh=>absurd h (by decide),λh=>absurd (by decide) h,λh=>absurd (by decide) h,λ_=>trivial⟩
 |ite a c d=>
  have hp:Zy 22=3:=by decide
  have hs:=a.size_pos;have hs2:=c.size_pos;have hs3:=d.size_pos;simp only[X.size]at hi;refine⟨Zvg (by decide) _ _ _,?_⟩;simp only[X.top,hp];exact⟨λ_=>by omega,λ_=>by omega,λ_=>by omega,λh=>absurd (by decide) h,λh=>absurd (by decide) h,λh=>absurd (by decide) h⟩
theorem Z3ma{l:List XN}(h:Zkb l≠0){i:Nat}{n:XN}(hg:l[i]?=some n):PlOk i n:=by
 obtain⟨x,hx,rfl⟩:=Z9l h
 have hi:i<x.size:=by rw[<- X.row_len x 0];exact(List.getElem?_eq_some_iff.1 hg).1
 obtain⟨y,b,h1,h2,h3,h4⟩:=Z7fa x i hi;rw[h4]at hg;cases hg;exact Z2ma hx h1 h2
end Go.Hs
end

section
namespace Go.Hs
open Go.Proofs
set_option maxRecDepth 10000
def ruleC:List V:=[0,0,0,0,0,0,0,1,0,0,0,1,0,0,0,2,0,0,0,2,1,0,0,1,2,0,0,2,1,1,0,1,1,1,0,1,1,1,0,1,1,1,0,1,1,1,0,1,1,1,0,2,1,1,0,2,1,1,0,2,1,1,0,2,3,3,0,2,3,3,0,2,2,2,0,2,2,2,0,2,2,2,0,2,2,2,0,2,2,3,3,3].map (V.int .u8)
def Zw1(op:Nat):Int:=if op<=4 then 0 else if op=5\/(7<=op/\op<=15)then 1 else if op=16\/op=17 then 3 else 2
def Ztga(op:Nat):Int:=if op<=6 then 0 else if op<=15 then 1 else if op<=17\/op=22 then 3 else 2
def Zu1(op:Nat):Int:=if op=22 then 3 else 0
def Zlma(op:Nat):Int:=if op=0 then 0 else if op<=2 then 1 else if op=22 then 3 else if op=5\/(7<=op/\op<=11)then 1 else 2
theorem Zsga(op:Nat)(h:op<23):(ruleC.drop (op*4)).take 4=[.int .u8 (Zw1 op),.int .u8 (Ztga op),.int .u8 (Zu1 op),.int .u8 (Zlma op)]:=by
 match op,h with
 |0,_=>rfl
 |1,_=>rfl
 |2,_=>rfl
 |3,_=>rfl
 |4,_=>rfl
 |5,_=>rfl
 |6,_=>rfl
 |7,_=>rfl
 |8,_=>rfl
 |9,_=>rfl
 |10,_=>rfl
 |11,_=>rfl
 |12,_=>rfl
 |13,_=>rfl
 |14,_=>rfl
 |15,_=>rfl
 |16,_=>rfl
 |17,_=>rfl
 |18,_=>rfl
 |19,_=>rfl
 |20,_=>rfl
 |21,_=>rfl
 |22,_=>rfl
 |n+23,h=>omega
theorem Zj1(G:Nat->V)(hG:GOk G):Spec Tryz.prog G 282 [] Zk (λv _=>v=.agg ruleC):=by
 refine Zo 0 39 [.cell 0 316] Tryz.func282 λX=>?_;refine Z1 ?_;intro g0;refine Z1 ?_;intro g1 g2;refine Z1 ?_;intro g3 g4;exact Zr
theorem Z6v(G:Nat->V)(hG:GOk G)(c:Col)(t:List UInt8)(s:Sl (List UInt8))(hs:s.l.length<1000000):
  Spec Tryz.prog G 316 [.str t,Zb c 1 V.str s] Zk (λv _=>v=.bool (s.l.contains t)):=by
 refine Zo 0 18 [.tmp 4] Tryz.func316 λX=>?_;refine Z1 ?_;refine Z1 ?_;refine AW.block ?_
 refine Z9 s.l.length (λk (_:Unit)=>st [(0,.str t),(1,Zb c 1 V.str s),(5,.int .i64 k)] []) (λk _=>(s.l.take k).contains t=false) 0 () (Nat.zero_le _) rfl
  (Za zp zp) ?_
 intro k _ hk hR L2 hL2;refine Z1 ?_;refine Zi rfl (λh4=>?_) (λh4=>?_);have hk1:k<s.l.length:=zu h4;have hg:=List.getElem?_eq_getElem hk1
 have htk:s.l.take (k+1)=s.l.take k++[s.l[k]]:=by rw[List.take_succ_eq_append_getElem hk1]
 have hmem:=List.getElem_mem hk1;generalize s.l[k]=x at hg htk hmem;refine Z1f hg ?_;refine Zi rfl (λh6=>?_) (λh6=>?_);have h6:x=t:=zu h6;refine Z ?_
 have:s.l.contains t=true:=by rw[<- h6];simpa using hmem
 rw[this];have h6:¬ x=t:=zu h6;refine Z1 ?_;refine hL2 _ ⟨hk1,(),?_,Za zw zp⟩;rw[htk];simp only[List.contains_eq_mem,decide_eq_false_iff_not]at hR⊢;intro hm
 rcases List.mem_append.1 hm with h|h
 exact hR h;exact h6 ((List.mem_singleton.1 h).symm)
 have hk1:k=s.l.length:=by simp at h4;omega
 refine Z ?_;rw[hk1,List.take_length]at hR;rw[hR]
theorem Zrv(G:Nat->V)(hG:GOk G)(c:Col)(t:List UInt8)(s:Sl (List UInt8))(hs:s.l.length<1000000):
  Spec Tryz.prog G 214 [Zb c 1 V.str s,.str t] Zk (λv _=>∃ i:Int,v=.int .i64 i/\decide (i>=0)=s.l.contains t):=by
 refine Zo 0 19 [.tmp 4] Tryz.func214 λX=>?_;refine Z1 ?_;refine Z1 ?_;refine AW.block ?_
 refine Z9 s.l.length (λk (_:Unit)=>st [(0,Zb c 1 V.str s),(1,.str t),(7,.int .i64 s.l.length),(8,.int .i64 k)] []) (λk _=>(s.l.take k).contains t=false) 0 () (Nat.zero_le _) rfl
  (Za zp zp) ?_
 intro k _ hk hR L2 hL2;refine Z1 ?_;refine Z4 ?_;refine Zi rfl (λh4=>?_) (λh4=>?_);have hk1:k<s.l.length:=zu h4;have hg:=List.getElem?_eq_getElem hk1
 have htk:s.l.take (k+1)=s.l.take k++[s.l[k]]:=by rw[List.take_succ_eq_append_getElem hk1]
 have hmem:=List.getElem_mem hk1;generalize s.l[k]=x at hg htk hmem;refine Z1 ?_;refine Z1f hg ?_;refine Zi rfl (λh6=>?_) (λh6=>?_);have h6:t=x:=zu h6;refine Z ?_
 have:s.l.contains t=true:=by rw[h6];simpa using hmem
 rw[this];exact⟨_,rfl,by rw[decide_eq_true_iff];omega⟩;have h6:¬ t=x:=zu h6;refine Z1 ?_;refine hL2 _ ⟨hk1,(),?_,Za zw zp⟩;rw[htk];simp only[List.contains_eq_mem,decide_eq_false_iff_not]at hR⊢;intro hm
 rcases List.mem_append.1 hm with h|h
 exact hR h;exact h6 (List.mem_singleton.1 h)
 have hk1:k=s.l.length:=by simp at h4;omega
 refine Z ?_;rw[hk1,List.take_length]at hR;rw[hR];exact⟨_,rfl,rfl⟩
theorem Zcd(G:Nat->V)(hG:GOk G)(c:Col)(t:List UInt8)(s:Sl (List UInt8))(hs:s.l.length<1000000):
  Spec Tryz.prog G 149 [Zb c 1 V.str s,.str t] Zk (λv _=>v=.bool (s.l.contains t)):=by
 refine Zo 0 9 [.tmp 4] Tryz.func149 λX=>?_;refine Z1 ?_;refine Z1 ?_;refine CallA.pure hG zk ?_;refine Zs ?_;refine(Zrv G hG _ t s hs).mono ?_;rintro _ _ ⟨i,rfl,hi⟩;refine Zs ?_;refine Z ?_;rw[hi]
theorem Z1la(G:Nat->V)(hG:GOk G)(c:Col)(s:Sl Int)(hs:s.l.length<1000000)(i:Int)(hi:i<0\/0<=i/\i<s.l.length):
  Spec Tryz.prog G 304 [.int .i64 i,.view .old (Zb c 1 (V.int .u8) s)] Zk (λv _=>v=.int .u8 (plc s.l i)):=by
 refine Zo 0 10 [.tmp 3] Tryz.func304 λX=>?_
 have hP:plc s.l i=if i<0 then 0 else s.l.getD i.toNat 0:=rfl
 generalize plc s.l i=res at hP⊢;refine Z1 ?_;refine Z1 ?_;refine Zi rfl (λh2=>?_) (λh2=>?_);have h2:i<0:=zu h2;rw[if_pos h2]at hP;refine Z ?_;rw[hP];have h2:¬ i<0:=zu h2;rw[if_neg h2]at hP;obtain⟨m,rfl⟩:∃ m:Nat,i=m:=⟨i.toNat,zo⟩;have hm:m<s.l.length:=zo;have hg:=List.getElem?_eq_getElem hm
 have hgd:s.l.getD ((m:Nat):Int).toNat 0=s.l[m]:=by rw[Int.toNat_natCast,List.getD_eq_getElem?_getD,hg]<;>rfl
 rw[hgd]at hP;generalize s.l[m]=x at hg hP;refine Zf hg ?_;rw[hP]
end Go.Hs
end
