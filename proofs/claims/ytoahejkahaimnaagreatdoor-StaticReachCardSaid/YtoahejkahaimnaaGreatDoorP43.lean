/- A part. No condition. -/
import Derived.Test.YtoahejkahaimnaaGreatDoorP41
import Derived.Test.YtoahejkahaimnaaGreatDoorP42
set_option linter.all false
section
namespace Go.Hs
open Go.Proofs
set_option maxRecDepth 100000
def Zal(s:Sg):V:=.agg [.str s.text,.int .i64 s.level,.int .i64 s.parts]
theorem Z9k(s:Sg):Zal s=.agg [.str s.text,.int .i64 s.level,.int .i64 s.parts]:=rfl
theorem Zs0(s:Sg):(Zal s).cells.length=3:=rfl
def tabC:List V:=flat (tabL.map Zal)
theorem Zk5(op:Nat)(h:op<23)(k:Nat)(hk:k<3):tabC[op*3+k]?=((Zal (tabL.getD op ⟨[],0,0⟩)).cells)[k]? := by
 match k,hk with
 |0,_=>exact match op,h with
  |0,_=>rfl
  |1,_=>rfl
  |2,_=>rfl
  |3,_=>rfl
  |4,_=>rfl
  |5,_=>rfl
  |6,_=>rfl
  |7,_=>rfl
  |8,_=>rfl
  |9,_=>rfl
  |10,_=>rfl
  |11,_=>rfl
  |12,_=>rfl
  |13,_=>rfl
  |14,_=>rfl
  |15,_=>rfl
  |16,_=>rfl
  |17,_=>rfl
  |18,_=>rfl
  |19,_=>rfl
  |20,_=>rfl
  |21,_=>rfl
  |22,_=>rfl
  |n+23,h=>absurd h zo
 |1,_=>exact match op,h with
  |0,_=>rfl
  |1,_=>rfl
  |2,_=>rfl
  |3,_=>rfl
  |4,_=>rfl
  |5,_=>rfl
  |6,_=>rfl
  |7,_=>rfl
  |8,_=>rfl
  |9,_=>rfl
  |10,_=>rfl
  |11,_=>rfl
  |12,_=>rfl
  |13,_=>rfl
  |14,_=>rfl
  |15,_=>rfl
  |16,_=>rfl
  |17,_=>rfl
  |18,_=>rfl
  |19,_=>rfl
  |20,_=>rfl
  |21,_=>rfl
  |22,_=>rfl
  |n+23,h=>absurd h zo
 |2,_=>exact match op,h with
  |0,_=>rfl
  |1,_=>rfl
  |2,_=>rfl
  |3,_=>rfl
  |4,_=>rfl
  |5,_=>rfl
  |6,_=>rfl
  |7,_=>rfl
  |8,_=>rfl
  |9,_=>rfl
  |10,_=>rfl
  |11,_=>rfl
  |12,_=>rfl
  |13,_=>rfl
  |14,_=>rfl
  |15,_=>rfl
  |16,_=>rfl
  |17,_=>rfl
  |18,_=>rfl
  |19,_=>rfl
  |20,_=>rfl
  |21,_=>rfl
  |22,_=>rfl
  |n+23,h=>absurd h zo
theorem Zlka(op:Nat)(h:op<23):tabC[op*3+1]?=some (.int .i64 (lvl op)):=by rw[Zk5 op h 1 zd]<;>rfl
theorem Z2r:tabC.length=69:=rfl
theorem Zhz(f:Col->Col):(V.agg tabC).recol f=.agg tabC:=by
 have:Zja f tabC=tabC:=by
  rw[Z7]
  have:∀ v∈tabC,v.recol f=v:=by
   intro v hv;unfold tabC flat at hv;rw[List.mem_flatMap]at hv;obtain⟨a,ha,hv⟩:=hv;obtain⟨s,_,rfl⟩:=List.mem_map.1 ha;simp only[Z9k,V.cells,List.mem_cons,List.not_mem_nil,or_false]at hv
   rcases hv with rfl|rfl|rfl<;>rfl
  exact(List.map_congr_left this).trans (List.map_id _)
 rw[V.recol,this]
theorem Z7r:∀ (c l:List V) (off:Nat),off+c.length<=l.length->Hs.setAt l off c=l.take off++c++l.drop (off+c.length)
 |[],l,off,_=>by simp[Hs.setAt]
 |v::r,l,off,h=>by
  simp only[List.length_cons]at h;rw[Hs.setAt,Z7r r (l.set off v) (off+1) (by rw[List.length_set];omega)]
  have h1:(l.set off v).take (off+1)=l.take off++[v]:=by
   rw[List.take_add_one,List.getElem?_set_self zo,List.take_set_of_le (Nat.le_refl _)]<;>rfl
  have h2:(l.set off v).drop (off+1+r.length)=l.drop (off+(r.length+1)):=by
   rw[List.drop_set_of_lt zo]
   congr 1;omega
  rw[h1,h2];simp
theorem Zmu{l c:List V}(h:c.length=l.length):Hs.setAt l 0 c=c:=by
 rw[Z7r c l 0 zo,h];simp
theorem Zjn(l:List V)(h:l.length=69):Hs.setAt l 0 tabC=tabC:=Zmu (by rw[h]<;>rfl)
theorem Zqi(G:Nat->V)(hG:GOk G):Spec Tryz.prog G 276 [] Zk (λv _=>v=.agg tabC):=by
 refine Zo 0 24 [.cell 0 320] Tryz.func276 λX=>?_;refine Z1 ?_;intro g0;exact Zr
structure FnG(G:Nat->V)(f:FuncId)(cap:List V)(p:Sg->Bool):Prop where
 en:Z2 Tryz.prog f=true
 rc:cap.map (V.recol Col.ent)=cap
 sp:∀ s:Sg,Spec Tryz.prog G f (Zal s::cap) Zk (λv _=>v=.bool (p s))
theorem Zy5(f:Col->Col)(s:Sg):(Zal s).recol f=Zal s:=by simp only[Z9k,Z4a,List.map_cons,List.map_nil,Zwa,Zuc]
theorem Z8l(G:Nat->V)(hG:GOk G)(c:Col)(s:Sl Sg)(hs:s.l.length<1000000){f:FuncId}{cap:List V}{p:Sg->Bool}(hf:FnG G f cap p):
  Spec Tryz.prog G 304 [Za c 3 Zal s,.func (.func f) [] cap] Zk (λv _=>v=.int .i64 (Zwp p s.l)):=by
 refine Zo 0 19 [.tmp 4] Tryz.func304 λX=>?_;refine Z1 ?_;refine Z1 ?_;refine AW.block ?_
 refine Zaa s.l.length (λk (_:Unit)=>st [(0,Za c 3 Zal s),(1,.func (.func f) [] cap),(7,.int .i64 s.l.length),(8,.int .i64 k)] []) (λk _=>∀ y∈s.l.take k,p y=false) 0 () (Nat.zero_le _) zS
  (Weak.st zp zp) ?_
 intro k _ hk hR L2 hL2;refine Z1 ?_;refine Z6 ?_;refine Zm rfl (λh4=>?_) (λh4=>?_);have hk1:k<s.l.length:=zu h4;have hg:=List.getElem?_eq_getElem hk1;generalize s.l[k]=x at hg;refine Z1 ?_;refine Z1f (zi hg @Z9k) ?_;refine CallA.pure hG hf.en ?_;simp only[List.map_cons,hf.rc,<- Z9k,Zy5];refine(hf.sp x).mono ?_;rintro _ _ rfl;refine Zs ?_;refine Zm rfl (λh6=>?_) (λh6=>?_);refine Z ?_;rw[Z6c hg hR h6];refine Z1 ?_;refine hL2 _ ⟨hk1,(),Z9d hg hR h6,Weak.st zw zp⟩
 have hk1:k=s.l.length:=by simp at h4;omega
 refine Z ?_;rw[hk1,List.take_length]at hR;rw[Z7c hR]
theorem Zjda(G:Nat->V)(hG:GOk G)(t:List UInt8)(p:Int)(s:Sg):Spec Tryz.prog G 305 [Zal s,.view .old (.str t),.view .old (.int .i64 p)] Zk (λv _=>v=.bool (sgIs t p s)):=by
 refine Zo 0 20 [.tmp 4] Tryz.func305 λX=>?_;simp only[Z9k];refine Zha λK hK=>AW.region zk ?_;refine Zs ?_;intro g3;refine hK _ ?_
 try clear hK K
 unfold sgIs
 cases h1:(s.text==t)<;>cases h2:(s.parts==p)<;>cases h3:(s.text==[])<;>((refine Zha λK hK=>AW.region zk ?_;simp -implicitDefEqProofs only[go_sem,seval,bne,h1,h2,h3];refine hK _ ?_;clear hK K);(refine AW.ret ?_;refine Zs ?_;refine Z6b ?_);rfl)
theorem fOf1{G:Nat->V}(hG:GOk G)(t:List UInt8)(p:Int):FnG G 305 [.view .old (.str t),.view .old (.int .i64 p)] (sgIs t p):=⟨by kernel_rfl,rfl,Zjda G hG t p⟩
theorem Zwma(t:List UInt8)(p:Int):Zwp (sgIs t p) tabL=match ofI t p with|some i=>(i:Int)|none => -1:=rfl
def encOf(o:Nat×Bool):V:=.tuple [.int .u8 o.1,.bool o.2]
theorem Zioa{t:List UInt8}{p:Int}{i:Nat}(h:ofI t p=some i):i<23:=(List.findIdx?_eq_some_iff_getElem.1 h).1
theorem Zvr(G:Nat->V)(hG:GOk G)(t:List UInt8)(p:Int):Spec Tryz.prog G 278 [.str t,.int .i64 p] Zk (λv _=>v=encOf (ofP t p)):=by
 refine Zo 0 17 [.tmp 4,.tmp 5] Tryz.func278 λX=>?_;refine Z1 ?_;intro g2 g3;refine Z1 ?_;refine Zn hG ?_ (s:=(Zqi G hG));refine Zsf (zi @Zhz (zi @Z2r @Nat.le_refl)) ?_;intro g6;rw[Zjn _ ?hl]
 case hl=>rfl
 refine Z6<|Zhf 0 zk rfl rfl ?_
 simp -implicitDefEqProofs only[go_sem,seval,List.take_zero];refine⟨_,Ziq Tryz.underlying320 zk (ob:=6) (g:=g6) (m:=3) (c:=.new) (fz:=0) (cs:=tabC) zp zp zd,?_⟩;refine CallA.bor hG [Za .old 3 Zal (.mk false tabL),.func (.func 305) [] [.view .old (.str t),.view .old (.int .i64 p)]] zk ⟨?_,Zh7 ⟨?_,?_,trivial⟩,trivial⟩ ?_
 exact Rd.msl (off:=0) (n:=23) (l:=tabL) (f:=Zal) (f':=Zal) (g:=g6) (fz:=0) (c:=.new) zp Zs0 (λx y hy=>by
  simp only[Z9k,V.cells,List.mem_cons,List.not_mem_nil,or_false]at hy
  rcases hy with rfl|rfl|rfl
  exact .str _;exact .int _ _
  exact .int _ _) (Zy5 _) zd
 exact Rd.ptr (v:=.str t) (c:=.new) (fz:=0) zp (by intro y hy;simp[V.cells]at hy;subst hy;exact .str _) zp;exact Rd.ptr (v:=.int .i64 p) (c:=.new) (fz:=0) zp (by intro y hy;simp[V.cells]at hy;subst hy;exact .int _ _) zp;refine(Z8l G hG _ (.mk false tabL) zd (fOf1 hG t p)).mono ?_;rintro _ _ rfl;refine⟨.int _ _,?_⟩;refine Zs ?_;have hI:=Zwma t p;unfold ofP
 show AW _ _ _ _ { τ := upd _ 7 (.int .i64 (Zwp (sgIs t p) tabL)),H:=_ }
 rw[hI]
 cases ho:ofI t p with
 |none=>
  exact Zr
 |some i=>
  have hi:=Zioa ho;refine AW.weak (Weak.st (l:=[(7,.int .i64 i)]) (m:=[]) zp zp) ?_
  have h0:((0:Int)>(i:Int))=False:=by rw[eq_iff_iff,iff_false];omega
  have hw:IntKind.u8.wrap (i:Int)=i:=by
   unfold IntKind.wrap;simp[IntKind.signed,IntKind.bits];omega
  have h1:decide ((i:Int)>=0)=true:=zT;exact Zq (zi h0 (zi hw h1))
end Go.Hs
end

section
namespace Go.Hs
open Go.Proofs
set_option maxRecDepth 10000
def Zkb(n:XN):V:=.agg [.int .u8 n.op,.int .i64 n.num,.str n.name,.int .i64 n.a,.int .i64 n.b,.int .i64 n.c]
theorem Znd(n:XN):Zkb n=.agg [.int .u8 n.op,.int .i64 n.num,.str n.name,.int .i64 n.a,.int .i64 n.b,.int .i64 n.c]:=rfl
theorem Z1i(n:XN):(Zkb n).cells.length=6:=rfl
theorem Zed(t:Tk):Zsc t=.agg [.int .u8 t.kind,.str t.text,.int .i64 t.pos]:=rfl
theorem Zrj(f:Col->Col)(n:XN):(Zkb n).recol f=Zkb n:=by simp only[Znd,Z4a,List.map_cons,List.map_nil,Zwa,Zuc]
theorem Z9ka(f:Col->Col)(t:Tk):(Zsc t).recol f=Zsc t:=by simp only[Zed,Z4a,List.map_cons,List.map_nil,Zwa,Zuc]
@[go_sem] theorem Zmc(g:Col->Col)(c:Col)(s:Sl Tk):(Za c 3 Zsc s).recol g=Za (g c) 3 Zsc s:=Zdb g c 3 (Z9ka g) s
@[go_sem] theorem Zcb(g:Col->Col)(c:Col)(s:Sl XN):(Za c 6 Zkb s).recol g=Za (g c) 6 Zkb s:=Zdb g c 6 (Zrj g) s
def rdO(NO:Nat)(tl:List V)(sl:Sl Tk)(g gx:Nat)(r:RS):AObj:=.cells .any g 0 (Za .any 3 Zsc sl::.int .i64 r.i::grown NO gx 6 r.nodes::.int .i64 r.e::tl)
def ndO(gx:Nat)(ns:List XN):AObj:=grownC .any gx Zkb ns
theorem Zzd(NO:Nat)(tl:List V)(sl:Sl Tk)(g gx:Nat)(r:RS):rdO NO tl sl g gx r=.cells .any g 0 (Za .any 3 Zsc sl::.int .i64 r.i::grown NO gx 6 r.nodes::.int .i64 r.e::tl):=rfl
def RdS(NO:Nat)(tl:List V)(G:Nat->V)(f:FuncId)(args:List V)(sl:Sl Tk)(g:Nat)(r:RS)(v:V)(r':RS):Prop:=
 ∀ gx,Spec Tryz.prog G f (.ptr 8 g 0::args) (Zfa Zk [(8,rdO NO tl sl g gx r),(NO,ndO gx r.nodes)]) (λv0 H'=>v0=v/\∃ gx',H' 8=rdO NO tl sl g gx' r'/\H' NO=ndO gx' r'.nodes)
theorem RdS.call{NO:Nat}{tl:List V}{G:Nat->V}(hG:GOk G){f:FuncId}{args args':List V}{sl:Sl Tk}{g gx:Nat}{r r':RS}{v:V}(h:RdS NO tl G f args' sl g r v r'){H:Heap}{K:V->Heap->Prop}
  (hen:Z2 Tryz.prog f=true) (htl:∀ F:Col->Col,tl.map (V.recol F)=tl) (hne:8≠NO) (hargs:args.map (V.recol Col.ent)=args') (hv:v.recol Col.bk=v)
  (h8:H 8=rdO NO tl sl g gx r) (hN:H NO=ndO gx r.nodes)
  (hk:∀ gx',K v (Zfa H [(8,rdO NO tl sl g gx' r'),(NO,ndO gx' r'.nodes)])):
  CallA Tryz.prog G f (.ptr 8 g 0::args) H K:=by
 have e8:∀ (F:Col->Col) gx r,F .any=.any->(rdO NO tl sl g gx r).recol F=rdO NO tl sl g gx r:=by
  intro F gx r hF;simp only[Zzd,recol_cells,List.map_cons,Zxd,Zmc,Zwa,hF,htl]
 have eN:∀ (F:Col->Col) gx ns,F .any=.any->(ndO gx ns).recol F=ndO gx ns:=by
  intro F gx ns hF;rw[ndO,Zgv F .any gx Zkb Zkb (Zrj F),hF]
 refine CallA.hand hG [(8,rdO NO tl sl g gx r),(NO,ndO gx r.nodes)] hen ?_ ?_;intro p hp;simp only[List.mem_cons,List.not_mem_nil,or_false]at hp
 rcases hp with rfl|rfl
 rw[h8,e8 _ _ _ rfl];rw[hN,eN _ _ _ rfl]
 have ha:(V.ptr 8 g 0::args).map (V.recol Col.ent)=.ptr 8 g 0::args':=by rw[List.map_cons,Zvj,hargs]
 rw[ha];refine(h gx).mono ?_;rintro _ H' ⟨rfl,gx',q8,qN⟩;simp only[List.map_cons,List.map_nil,q8,qN,e8 _ _ _ Z86,eN _ _ _ Z86,hv];exact hk gx'
theorem Zmb{NO:Nat}{tl:List V}{G:Nat->V}(hG:GOk G){f:FuncId}{args args':List V}{sl:Sl Tk}{g gx:Nat}{r r':RS}{v:V}(h:RdS NO tl G f args' sl g r v r'){H:Heap}{K:V->Heap->Prop}
  (hk:∀ gx',K v (Zfa H [(8,rdO NO tl sl g gx' r'),(NO,ndO gx' r'.nodes)])) (hen:Z2 Tryz.prog f=true:=by kernel_rfl) (htl:∀ F:Col->Col,tl.map (V.recol F)=tl:=by exact λF=>rfl) (hne:8≠NO:=by decide)
  (hargs:args.map (V.recol Col.ent)=args':=by exact zx) (hv:v.recol Col.bk=v:=by exact zm) (h8:H 8=rdO NO tl sl g gx r:=by exact zr) (hN:H NO=ndO gx r.nodes:=by exact zr):
  CallA Tryz.prog G f (.ptr 8 g 0::args) H K:=RdS.call hG h hen htl hne hargs hv h8 hN hk
structure TkOk(l:List Tk):Prop where
 len:l.length<100000
 text:∀ t∈l,t.text.length<100000
theorem Zf9{l:List Tk}{i:Nat}{t:Tk}(h:l[i]?=some t):Zma l i=if(isP t.text:Int)=t.kind then t else⟨0,[],0⟩:=by unfold Zma;rw[h]
theorem Zg9{l:List Tk}{i:Nat}(h:l.length<=i):Zma l i=⟨0,[],0⟩:=by unfold Zma;rw[List.getElem?_eq_none h]
theorem Zuk(G:Nat->V)(hE:GExp G)(sl:Sl Tk)(hT:TkOk sl.l)(g:Nat)(r:RS)(hr:r.i<1000000):RdS 1031 [.func (.func 259) [] []] G 277 [] sl g r (Zsc (Zma sl.l r.i)) r:=by
 have hG:=hE.ok;intro gx;refine Zo 1000 50 [.cell 2 238] Tryz.func277 λX=>?_;simp only[Zfa,Zzd];refine Z1 ?_;intro g2;refine Z6 ?_
 by_cases hi:r.i<sl.l.length
 have h1:decide ((r.i:Int)<sl.l.length)=true:=zT;have hg:=List.getElem?_eq_getElem hi;have hm:=hT.text _ (List.getElem_mem hi);generalize sl.l[r.i]=t at hg hm;have hP:=Zf9 hg
 have p1:Zada Tryz.prog G 146 [.str t.text] (.int .u8 (isP t.text)):=⟨by kernel_rfl,by
  refine Zs ?_;refine(Zmf G hE t.text zo).mono ?_;rintro _ _ rfl
  rfl⟩
 by_cases hk:(isP t.text:Int)=t.kind
 rw[if_pos hk]at hP;have e1:((isP t.text:Int)==t.kind)=true:=zu hk
 refine Z6<|Zp ⟨λi=>if i=22 then .int .u8 (isP t.text)else .top,λ_=>.pure⟩ zk hG zk zk ?_
 refine Zsf (zi h1 (zi hg (zi @Zed e1))) ?_;refine⟨p1,?_⟩;refine Zm rfl (λh2=>?_) (λh2=>?_);refine ZTf (zi hg @Zed) hG ?_;refine Z ?_;exact⟨by rw[hP]<;>rfl,gx,zp,zp⟩;cases h2;rw[if_neg hk]at hP;have e1:((isP t.text:Int)==t.kind)=false:=zu hk
 refine Z6<|Zp ⟨λi=>if i=22 then .int .u8 (isP t.text)else .top,λ_=>.pure⟩ zk hG zk zk ?_
 refine Zsf (zi h1 (zi hg (zi @Zed e1))) ?_;refine⟨p1,?_⟩;refine Zad rfl ?_;refine Z ?_;exact⟨by rw[hP]<;>rfl,gx,zp,zp⟩;have h1:decide ((r.i:Int)<sl.l.length)=false:=zF;have hP:=Zg9 (l:=sl.l) (i:=r.i) zo;refine ZTf h1 hG ?_;refine Zad rfl ?_;refine Z ?_;exact⟨by rw[hP]<;>rfl,gx,zp,zp⟩
theorem Zyh(G:Nat->V)(hG:GOk G)(sl:Sl Tk)(g:Nat)(r:RS)(hr:r.nodes.length<1000000):RdS 1031 [.func (.func 259) [] []] G 279 [] sl g r (.int .i64 r.last) r:=by
 intro gx;refine Zo 1000 9 [.tmp 2] Tryz.func279 λX=>?_;simp only[Zfa,Zzd];refine Z ?_;exact⟨by rw[w64 zo zo]<;>rfl,gx,zp,zp⟩
theorem Zlu{l:List Int}(h:l.length<=3):setAt [V.int .i64 (-1),V.int .i64 (-1),V.int .i64 (-1)] 0 (l.map (V.int .i64))=[V.int .i64 (l.getD 0 (-1)),V.int .i64 (l.getD 1 (-1)),V.int .i64 (l.getD 2 (-1))]:=by
 match l,h with
 |[],_=>rfl
 |[_],_=>rfl
 |[_,_],_=>rfl
 |[_,_,_],_=>rfl
theorem Zcr(k:IntKind)(l:List Int):flat (l.map (V.int k))=l.map (V.int k):=by
 induction l with
 |nil=>rfl
 |cons x r ih=>unfold flat at ih⊢;rw[List.map_cons,List.flatMap_cons,ih]<;>rfl
def Zv8(n:XN)(ps:List Int):XN:={ n with a:=ps.getD 0 (-1),b:=ps.getD 1 (-1),c:=ps.getD 2 (-1) }
theorem Zej(G:Nat->V)(hG:GOk G)(sl:Sl Tk)(g:Nat)(r:RS)(hr:r.nodes.length<1000000)(n:XN)(c:Col)(ps:Sl Int)(hps:ps.l.length<=3):
  RdS 1031 [.func (.func 259) [] []] G 280 [Zkb n,Za c 1 (V.int .i64) ps] sl g r (.bool true) (r.put (Zv8 n ps.l)):=by
 intro gx;refine Zo 1000 34 [.tmp 6] Tryz.func280 λX=>?_;simp only[Zfa,Zzd,Znd];refine Z1 ?_;intro g4;refine Z1 ?_;intro g8
 refine Z6<|Zol 2 zk rfl rfl ?_
 simp -implicitDefEqProofs only[go_sem,seval,List.take_succ_cons,List.take_zero];refine⟨_,_,GivesE.copy Tryz.underlying45 zk (ob:=1008) (g:=g8) (m:=1) (len:=3) (cs:=[.int .i64 (-1),.int .i64 (-1),.int .i64 (-1)]) (c:=.new) (fz:=0) (off:=0) (n:=ps.l.length) (xc:=ps.l.map (V.int .i64)) zp zp (by refine Zs ?_;exact congrArg (λx=>some (ps.l.length,x)) (Zcr _ _)) hps (Nat.le_refl _) zO,?_⟩;rw[Zlu hps];simp -implicitDefEqProofs only[go_sem,seval,List.drop_succ_cons,List.drop_zero];have hn:Zv8 n ps.l={ n with a:=ps.l.getD 0 (-1),b:=ps.l.getD 1 (-1),c:=ps.l.getD 2 (-1) }:=rfl;generalize ps.l.getD 0 (-1)=x0 at hn⊢;generalize ps.l.getD 1 (-1)=x1 at hn⊢;generalize ps.l.getD 2 (-1)=x2 at hn⊢
 refine AW.weak (Zw (λo=>o==1008) (l:=[(0,.ptr 8 g 0),(4,.ptr 1004 g4 0),(7,.slice .new false 1 [.int .i64 x0,.int .i64 x1,.int .i64 x2])])
  (m:=[(8,rdO 1031 [.func (.func 259) [] []] sl g gx r),(1031,ndO gx r.nodes),(1004,.cells .new g4 0 [.int .u8 n.op,.int .i64 n.num,.str n.name,.int .i64 n.a,.int .i64 n.b,.int .i64 n.c])]) ?_ ?_) ?_
 refine Zs ?_;refine⟨Fz.same _,Fz.same _,?_⟩;exact Z2b (f:=V.int .i64) (l:=[x0,x1,x2]) (m:=1) (g:=g8) (fz:=0) (c:=.new) rfl zp (λ_=>rfl);simp only[Zv,Zy,and_true];exact⟨FzO.keep rfl zp,FzO.keep rfl zp,FzO.keep rfl zp⟩
 refine Z6<|Zp ⟨λ_=>.top,λi=>if i=2 then .lend else if i=5 then .lend else if i=8 then .lend else .pure⟩ zk hG zk zk ?_
 refine Zsf @Zzd ?_;refine AW.later ?_;refine ZT hG ?_;intro g30;refine Z1aa (f:=Zkb) (l:=r.nodes) (l2:=[Zv8 n ps.l]) (g:=gx) Z1i rfl (by rw[hn]<;>rfl) rfl zp (Z9 zo zO) λc2 g2=>?_;refine Zs ?_;refine Z1 ?_;refine AW.ret ?_;refine Zs ?_;refine⟨st [(6,.bool true)] [(8,rdO 1031 [.func (.func 259) [] []] sl g g2 (r.put (Zv8 n ps.l))),(1031,ndO g2 (r.nodes++[Zv8 n ps.l]))],Zw (λ_=>false) ?_ ?_,?_⟩;refine Zs ?_;exact Fz.same _;simp only[Zv,Zy,and_true];exact⟨FzO.keep rfl zp,Zbda (c:=c2) rfl zp⟩;refine Zs ?_;exact Z6b ⟨rfl,g2,zp,zp⟩
theorem Z0r(G:Nat->V)(s:List UInt8):Spec Tryz.prog G 318 [.str s,.str [48]] Zk (λv _=>v=.str (s.dropWhile (· == 48))):=by
 refine Zrd λX cargs _ _ hA=>?_;obtain⟨x,y,rfl,hx,hy⟩:=hA.two;obtain⟨s',rfl,rfl⟩:=hx.str_inv;obtain⟨p',rfl,hp⟩:=hy.str_inv
 obtain rfl:p'=⟨#[48]⟩:=by
  obtain⟨⟨l⟩⟩:=p';simp at hp;rw[hp]
 refine(show Calls Tryz.prog 318 _ _ _ from Any.strings_TrimLeft_one Zn2 s' 48 zd X.w).mono ?_;rintro e w' ⟨rfl,rfl⟩;exact⟨_,_,rfl,RowKit.Below.refl _ _,.str _ _ rfl,by simp[Lib.trimLeftB]⟩
theorem Zvk(G:Nat->V)(hG:GOk G)(sl:Sl Tk)(g:Nat)(r:RS)(hi:r.i<1000000)(hr:r.nodes.length<1000000)(op num:Int)(name:List UInt8)(x y z:Int):
  RdS 1031 [.func (.func 259) [] []] G 301 [Zkb ⟨op,num,name,x,y,z⟩] sl g r (.bool true) (Zws r op num name).2:=by
 intro gx;refine Zo 1000 15 [.tmp 4] Tryz.func301 λX=>?_
 have hw:IntKind.i64.wrap ((r.i:Int)+1)=((r.i+1:Nat):Int):=by rw[w64 zo zo];omega
 simp only[Zfa,Zzd,Znd];refine Z1 ?_;intro g3;refine Z1f hw ?_;refine Z1 ?_;rw[<- Znd ⟨op,num,name,x,y,z⟩];refine Zmb hG (Zej G hG sl g r.adv hr ⟨op,num,name,x,y,z⟩ .any .nil zd) (gx:=gx) λgx'=>?_;refine Zu ?_;refine Z ?_;exact⟨rfl,gx',zp,zp⟩
theorem Z0m(G:Nat->V)(hE:GExp G)(sl:Sl Tk)(hT:TkOk sl.l)(g:Nat)(r:RS)(hi:r.i<1000000)(w:List UInt8):
  RdS 1031 [.func (.func 259) [] []] G 302 [.str w] sl g r (.bool (Z0l sl.l w r).1) (Z0l sl.l w r).2:=by
 have hG:=hE.ok;intro gx;refine Zo 1000 27 [.tmp 4] Tryz.func302 λX=>?_
 have hw:IntKind.i64.wrap ((r.i:Int)+1)=((r.i+1:Nat):Int):=by rw[w64 zo zo];omega
 refine Z1 ?_;refine Z1 ?_;refine Zmb hG (Zuk G hE sl hT g r hi) (gx:=gx) λgx'=>?_;refine Zu ?_;refine Zsf @Zed ?_;intro g5
 have hP:Z0l sl.l w r=if(Zma sl.l r.i).kind=0\/(Zma sl.l r.i).text≠w then(false,r.err 80)else(true,r.adv):=rfl
 generalize Zma sl.l r.i=t at hP⊢;obtain⟨k,t,p⟩:=t;simp only at hP
 by_cases hk:k=0
 have e1:(k==0)=true:=zu hk;rw[if_pos (.inl hk)]at hP;refine Z1f e1 ?_;refine Zm rfl (λh2=>?_) (λh2=>?_);refine Zf @Zzd ?_;rw[hP];exact⟨rfl,gx',zp,zp⟩;cases h2;have e1:(k==0)=false:=zu hk
 by_cases ht:t=w
 have e2:(t==w)=true:=zu ht;rw[if_neg (by rintro(h|h);exact hk h;exact h ht)]at hP;refine Zne zk ?_;simp -implicitDefEqProofs only[go_sem,seval,e1,bne,e2];refine Zad rfl ?_;refine Zf (zi @Zzd hw) ?_;rw[hP];exact⟨rfl,gx',zp,zp⟩;have e2:(t==w)=false:=zu ht;rw[if_pos (.inr ht)]at hP;refine Zne zk ?_;simp -implicitDefEqProofs only[go_sem,seval,e1,bne,e2];refine Zm rfl (λh2=>?_) (λh2=>?_);refine Zf @Zzd ?_;rw[hP];exact⟨rfl,gx',zp,zp⟩;cases h2
theorem Zxda(t:List UInt8):(Zzg t).length<=t.length+1:=by
 unfold Zzg
 split
 simp;exact Nat.le_trans ((List.dropWhile_sublist _).length_le) (Nat.le_succ _)
theorem Zzt(G:Nat->V)(hE:GExp G)(sl:Sl Tk)(g:Nat)(r:RS)(hi:r.i<1000000)(hr:r.nodes.length<1000000)(t:List UInt8)(ht:t.length<100000):
  RdS 1031 [.func (.func 259) [] []] G 300 [.str t] sl g r (.bool (Zkg r t).1) (Zkg r t).2:=by
 have hG:=hE.ok;intro gx;refine Zo 1000 26 [.tmp 4] Tryz.func300 λX=>?_;refine Z1 ?_;refine Z1 ?_;refine Zc hG ?_ (s:=(Z0r G t))
 have hT0:Zzg t=if t.dropWhile (· == 48)=[]then[48]else t.dropWhile (· == 48):=rfl
 have hP:Zkg r t=if(Zje (Zzg t)).2≠0 then(false,r.err (Zje (Zzg t)).2)else Zws r 1 (Zje (Zzg t)).1 []:=rfl
 have hl:=Zxda t;refine Zlc (fun(_:Unit)=>st [(0,.ptr 8 g 0),(1,.str (Zzg t))] [(8,rdO 1031 [.func (.func 259) [] []] sl g gx r),(1031,ndO gx r.nodes)]) (λ_=>True) (λK1 hK1=>?_) ?_;rw[hT0]at hK1;refine Z1 ?_;refine Zm rfl (λh2=>?_) (λh2=>?_);have h2:t.dropWhile (· == 48)=[]:=zu h2;rw[if_pos h2]at hK1;refine Z1 ?_;exact hK1 _ () trivial (Weak.st zp (by simp -implicitDefEqProofs only[go_sem,seval,Zfa]));have h2:¬ t.dropWhile (· == 48)=[]:=zu h2;rw[if_neg h2]at hK1;refine Z0 ?_;exact hK1 _ () trivial (Weak.st zp (by simp -implicitDefEqProofs only[go_sem,seval,Zfa]));intro _ _;generalize Zzg t=s at hl hP⊢;refine Z1 ?_;refine Zn hG ?_ (s:=(Zf0 G hE.toGNum s zo));generalize Zje s=q at hP⊢;obtain⟨n,e⟩:=q;simp only at hP;refine Zsf @encR.eq_1 ?_;refine Z6 ?_
 by_cases he:e=0
 have e1:(e==0)=true:=zu he;rw[if_neg (show ¬ e≠0 by simpa using he)]at hP;refine Zne zk ?_;simp -implicitDefEqProofs only[go_sem,seval,bne,e1];refine Zad rfl ?_;refine Z1 ?_;rw[<- Znd ⟨1,n,[],0,0,0⟩];refine Zmb hG (Zvk G hG sl g r hi hr 1 n [] 0 0 0) (gx:=gx) λgx'=>?_;refine Zu ?_;refine Z ?_;rw[hP];exact⟨rfl,gx',zp,zp⟩;have e1:(e==0)=false:=zu he;rw[if_pos he]at hP;refine Zne zk ?_;simp -implicitDefEqProofs only[go_sem,seval,bne,e1];refine Zm rfl (λh4=>?_) (λh4=>?_);refine Zf @Zzd ?_;rw[hP];exact⟨rfl,gx,zp,zp⟩;cases h4
def Zwja(G:Nat->V)(sl:Sl Tk)(g:Nat)(inner:Inner)(i0:Nat):Prop:=
 ∀ n r,1<=n->n<=9->i0<r.i->Zi7 sl.l r->RdS 1031 [.func (.func 259) [] []] G 259 [.int .i64 n] sl g r (.bool (inner n r).1) (inner n r).2
theorem Z9n{l:List Tk}(hT:TkOk l)(i:Nat):(Zma l i).text.length<100000:=by
 unfold Zma
 split
 rename_i t h
 split
 exact hT.text _ (List.mem_of_getElem? h);exact Nat.zero_lt_succ _;exact Nat.zero_lt_succ _
theorem Zvha(l:List Tk)(w:List UInt8)(r:RS):(Z0l l w r).1=true->(Z0l l w r).2=r.adv:=by
 unfold Z0l
 split
 intro h;cases h;exact λ_=>rfl
def Zk8(l:List Tk)(inner:Inner):List (List UInt8)->List Int->RS->Bool×RS
 |[],parts,r=>andThen (Z0l l Z4m r) λr4=>(true,r4.put (Zv8 ⟨22,0,[],0,0,0⟩ parts))
 |w::ws,parts,r=>andThen (Z0l l w r) λr1=>andThen (inner 1 r1) λa=>Zk8 l inner ws (parts++[a.last]) a
theorem Zit(l:List Tk)(inner:Inner)(r:RS):Zxc l inner r=Zk8 l inner [wIf,Zq7,Zs7] [] r:=rfl
def brW:List (List UInt8):=[wIf,Zq7,Zs7]
theorem Zxp(G:Nat->V)(hE:GExp G)(sl:Sl Tk)(hT:TkOk sl.l)(g:Nat)(r:RS)(hr:Zi7 sl.l r)(inner:Inner)(hin:Zwja G sl g inner r.i)(hb:Bals sl.l inner):
  RdS 1031 [.func (.func 259) [] []] G 303 [] sl g r (.bool (Zxc sl.l inner r).1) (Zxc sl.l inner r).2:=by
 have hG:=hE.ok;have hTl:=hT.len;intro gx;refine Zo 1000 37 [.tmp 2] Tryz.func303 λX=>?_;refine Z1 ?_;refine Z1 ?_;refine Z1 ?_;refine AW.block ?_
 refine Zaa 3 (λk (x:Nat×Nat×List Int×RS)=>st [(0,.ptr 8 g 0),(3,grown 1027 x.1 1 x.2.2.1),(6,.agg (brW.map V.str)),(7,.int .i64 k)] [(1027,Zca x.1 (V.int .i64) x.2.2.1),(8,rdO 1031 [.func (.func 259) [] []] sl g x.2.1 x.2.2.2),(1031,ndO x.2.1 x.2.2.2.nodes)])
  (λk x=>Zxc sl.l inner r=Zk8 sl.l inner (brW.drop k) x.2.2.1 x.2.2.2/\Zi7 sl.l x.2.2.2/\r.i<=x.2.2.2.i/\x.2.2.1.length=k) 0 (0,gx,[],r) (Nat.zero_le _) ⟨Zit _ _ _,hr,Nat.le_refl _,rfl⟩
  (Weak.st (by simp -implicitDefEqProofs only[go_sem,seval,List.map_cons,List.map_nil];exact⟨rfl,rfl⟩) (by simp -implicitDefEqProofs only[go_sem,seval,Zfa];try rfl)) ?_
 rintro k ⟨gp,gy,parts,q⟩ hk ⟨hP,hq,hqi,hpl⟩ L2 hL2;have hP:Zxc sl.l inner r=Zk8 sl.l inner (brW.drop k) parts q:=hP;have hq:Zi7 sl.l q:=hq;have hqi:r.i<=q.i:=hqi;have hpl:parts.length=k:=hpl
 have hqI:q.i<1000000:=by have:=hq.1;omega
 refine Z1 ?_;refine Z6 ?_;refine Zm rfl (λh4=>?_) (λh4=>?_)
 .have hk1:k<3:=by have h4:decide ((k:Int)<3)=true:=h4;simp at h4;omega
  refine Z0 ?_;refine Z6 ?_;refine AW.block ?_
  obtain⟨w,hw1,hw2⟩:∃ w,(brW.map V.str)[k]?=some (.str w)/\brW.drop k=w::brW.drop (k+1):=by
   have hkl:k<brW.length:=hk1;exact⟨brW[k],by rw[List.getElem?_map,List.getElem?_eq_getElem hkl]<;>rfl,List.drop_eq_getElem_cons hkl⟩
  have hk1':(k:Int)<3:=zo;rw[hw2,Zk8]at hP;have heb:=Zrg sl.l w q;have het:=Zvha sl.l w q;have hes:=Z0m G hE sl hT g q hqI w;generalize Z0l sl.l w q=y at hP heb hes het;obtain⟨b,q1⟩:=y;simp only at heb hes het;refine Z1f (zi hw1 (zi hk1' (zi @Int.natCast_nonneg @Nat.mul_one))) ?_;refine Z6 ?_
  cases b with
  |false=>
   rw[Zpd]at hP;refine Z1 ?_;refine Zmb hG (hes) (gx:=gy) λgz=>?_;refine Zu ?_;refine Zm rfl (λh7=>?_) (λh7=>?_);refine Z ?_;rw[hP];exact⟨rfl,gz,zr,zr⟩;cases h7
  |true=>
   rw[Zkd]at hP;have hb1:=heb.2 rfl;have hq1:=hb1.ok hq
   have hlt:r.i<q1.i:=by rw[het rfl];show r.i<q.i+1;omega
   have hc:=hin 1 q1 zd zd hlt hq1;have hb2:=hb 1 q1;generalize inner 1 q1=z at hP hc hb2;obtain⟨b,a⟩:=z;simp only at hc hb2;have ha:=hb2.ok hq1
   have han:a.nodes.length<1000000:=by have:=ha.1;have:=ha.2;omega
   cases b with
   |false=>
    rw[Zpd]at hP;refine Z1f @Zzd ?_;refine Zmb hG (hes) (gx:=gy) λgz=>?_;refine Zu ?_;refine Zsf @Zzd ?_;refine Zmb hG (hc) (gx:=gz) λgz2=>?_;refine Zu ?_;refine Zm rfl (λh7=>?_) (λh7=>?_);refine Z ?_;rw[hP];exact⟨rfl,gz2,zr,zr⟩;cases h7
   |true=>
    rw[Zkd]at hP;refine Z1f @Zzd ?_;refine Zmb hG (hes) (gx:=gy) λgz=>?_;refine Zu ?_;refine Zsf @Zzd ?_;refine Zmb hG (hc) (gx:=gz) λgz2=>?_;refine Zu ?_;refine Zad rfl ?_;refine Z1 ?_;refine Zmb hG (Zyh G hG sl g a han) (gx:=gz2) λgz3=>?_;refine Zu ?_;intro g26;refine Zhb (f:=V.int .i64) (l:=parts) (l2:=[a.last]) (g:=gp) (λ_=>rfl) rfl rfl rfl zp (Z9 zo zO) λg27=>?_;refine Zs ?_;refine Z1 ?_;refine hL2 _ ⟨hk1,(g27,gz3,parts++[a.last],a),⟨hP,ha,?_,?_⟩,Weak.st zw zp⟩
    show r.i<=a.i
    have:=hb2.up;omega
    show(parts++[a.last]).length=k+1
    rw[List.length_append,List.length_singleton,hpl]
 .have hk1:k=3:=by have h4:decide ((k:Int)<3)=false:=h4;simp at h4;omega
  refine Z0 ?_;rw[hk1,show brW.drop 3=[]from rfl,Zk8]at hP;have heb:=Zrg sl.l Z4m q;have hes:=Z0m G hE sl hT g q hqI Z4m;generalize Z0l sl.l Z4m q=y at hP heb hes;obtain⟨b,q1⟩:=y;simp only at heb hes;have hq1:=(heb.1).ok hq
  have hqn:q1.nodes.length<1000000:=by have:=hq1.1;have:=hq1.2;omega
  cases b with
  |false=>
   rw[Zpd]at hP;refine Z1 ?_;refine Zmb hG (hes) (gx:=gy) λgz=>?_;refine Zu ?_;refine Z ?_;rw[hP];exact⟨rfl,gz,zr,zr⟩
  |true=>
   rw[Zkd]at hP;refine Z1 ?_;refine Zmb hG (hes) (gx:=gy) λgz=>?_;refine Zu ?_;refine Z8a (λo=>o==1027) [.ptr 8 g 0,Zkb ⟨22,0,[],0,0,0⟩,Za .new 1 (V.int .i64) (Zb parts)] [(8,rdO 1031 [.func (.func 259) [] []] sl g gz q1),(1031,ndO gz q1.nodes)] ⟨Fz.same _,Fz.same _,?_,trivial⟩ ?_ ?_;exact Zkc (g:=gp) rfl zp (λ_=>rfl);simp only[Zv,Zy,and_true];exact⟨FzO.keep rfl zp,FzO.keep rfl zp⟩
   have hp3:(Zb parts).l.length<=3:=by rw[Zl];omega
   refine Zmb hG (Zej G hG sl g q1 hqn ⟨22,0,[],0,0,0⟩ .old (Zb parts) hp3) (gx:=gz) λgz2=>?_;refine Zu ?_;refine Z ?_;rw[hP];exact⟨rfl,gz2,zr,zr⟩
theorem Zbz(G:Nat->V)(hE:GExp G)(sl:Sl Tk)(hT:TkOk sl.l)(g:Nat)(r:RS)(hr:Zi7 sl.l r)(inner:Inner)(hin:Zwja G sl g inner r.i)(hb:Bals sl.l inner):
  RdS 1031 [.func (.func 259) [] []] G 275 [] sl g r (.bool (Zuh sl.l inner r).1) (Zuh sl.l inner r).2:=by
 have hG:=hE.ok;have hTl:=hT.len
 have hri:r.i<1000000:=by have:=hr.1;omega
 have hrn:r.nodes.length<1000000:=by have:=hr.2;omega
 have hw:IntKind.i64.wrap ((r.i:Int)+1)=((r.i+1:Nat):Int):=by rw[w64 zo zo];omega
 intro gx;refine Zo 1000 107 [.tmp 2] Tryz.func275 λX=>?_
 have hP:Zuh sl.l inner r=if(Zma sl.l r.i).kind=1 then Zkg r (Zma sl.l r.i).text
  else if(Zma sl.l r.i).kind=2 then Zws r 2 0 (Zma sl.l r.i).text
  else if(Zma sl.l r.i).kind=0 then(false,r.err 80)
  else if(ofP (Zma sl.l r.i).text 1).2 then andThen (inner 9 r.adv) λa=>(true,a.put ⟨(ofP (Zma sl.l r.i).text 1).1,0,[],a.last,-1,-1⟩)
  else if(Zma sl.l r.i).text=[40]then andThen (inner 1 r.adv) (Z0l sl.l [41])
  else if(Zma sl.l r.i).text=wIf then Zxc sl.l inner r
  else if(ofP (Zma sl.l r.i).text 0).2/\(Zma sl.l r.i).kind=3 then Zws r (ofP (Zma sl.l r.i).text 0).1 0 []
  else(false,r.err 80):=rfl
 have htl:=Z9n hT r.i;have hadv:(Zma sl.l r.i).kind≠0->Zi7 sl.l r.adv:=λh=>(Bal.adv (Z5j h)).ok hr
 have hno0:(Zma sl.l r.i).kind=0->(ofP (Zma sl.l r.i).text 0).2=false:=λh=>by
  unfold ofP
  cases ho:ofI (Zma sl.l r.i).text 0 with
  |none=>rfl
  |some i=>
   have hk:=Zss sl.l r.i;rw[h]at hk
   rcases Z1la ho with ⟨h,_⟩|⟨h,_⟩
   rw[h]at hk;exact absurd hk zd;rw[h]at hk;exact absurd hk zd
 refine Z1 ?_;refine Z1 ?_;refine Zmb hG (Zuk G hE sl hT g r hri) (gx:=gx) λgx1=>?_;refine Zu ?_;refine Zsf @Zed ?_;intro g3;generalize Zma sl.l r.i=t at hP htl hadv hno0⊢;obtain⟨k,t,p⟩:=t;simp only at hP htl hadv hno0;refine Z1 ?_;refine Zn hG ?_ (s:=(Zvr G hG t 1));generalize ofP t 1=o1 at hP⊢;obtain⟨op1,one⟩:=o1;simp only at hP;refine Zsf @encOf.eq_1 ?_
 refine Zlc (fun(_:Unit)=>st [(0,.ptr 8 g 0),(3,.ptr 1003 g3 0)] [(1003,.cells .new g3 0 [.int .u8 k,.str t,.int .i64 p]),(8,rdO 1031 [.func (.func 259) [] []] sl g gx1 r),(1031,ndO gx1 r.nodes)])
  (λ_=>(k=0\/(k≠0/\k≠1/\k≠2/\one=false/\t≠[40]/\t≠wIf))) (λK1 hK1=>?_) ?_
 .refine AW.block ?_
  by_cases k1:k=1
  have e1:(k==1)=true:=zu k1;rw[if_pos k1]at hP;refine Z1f e1 ?_;refine Zm rfl (λh2=>?_) (λh2=>?_);refine Z1 ?_;refine Zmb hG (Zzt G hE sl g r hri hrn t htl) (gx:=gx1) λgx2=>?_;refine Zu ?_;refine Z ?_;rw[hP];exact⟨rfl,gx2,zr,zr⟩;cases h2;have e1:(k==1)=false:=zu k1;rw[if_neg k1]at hP;refine Z1f e1 ?_;refine Zad rfl ?_
  try clear h2
  by_cases k2:k=2
  have e2:(k==2)=true:=zu k2;rw[if_pos k2]at hP;refine Z1f e2 ?_;refine Zm rfl (λh2=>?_) (λh2=>?_);refine Z1 ?_;rw[<- Znd ⟨2,0,t,0,0,0⟩];refine Zmb hG (Zvk G hG sl g r hri hrn 2 0 t 0 0 0) (gx:=gx1) λgx2=>?_;refine Zu ?_;refine Z ?_;rw[hP];exact⟨rfl,gx2,zr,zr⟩;cases h2;have e2:(k==2)=false:=zu k2;rw[if_neg k2]at hP;refine Z1f e2 ?_;refine Zad rfl ?_
  try clear h2
  by_cases k0:k=0
  have e0:(k==0)=true:=zu k0;refine Z1f e0 ?_;refine Zm rfl (λh2=>?_) (λh2=>?_);refine Z0 ?_;exact hK1 _ () (.inl k0) (Weak.st zp zp);cases h2;have e0:(k==0)=false:=zu k0;rw[if_neg k0]at hP;have had:=hadv k0;refine Z1f e0 ?_;refine Zad rfl ?_
  try clear h2
  refine Z1 ?_;refine Zm rfl (λh3=>?_) (λh3=>?_)
  .subst h3
   rw[if_pos rfl]at hP;have hc:=hin 9 r.adv zd zd (Nat.lt_succ_self _) had;have hbl:=(hb 9 r.adv).ok had;generalize inner 9 r.adv=x at hc hP hbl;obtain⟨b,a⟩:=x;simp only at hc hbl
   have han:a.nodes.length<1000000:=by have:=hbl.1;have:=hbl.2;omega
   refine Z1f (zi @Zzd hw) ?_
   cases b with
   |false=>
    refine Z1f @Zzd ?_;refine Zmb hG (hc) (gx:=gx1) λgx2=>?_;refine Zu ?_;refine Z ?_;rw[hP];exact⟨rfl,gx2,zr,zr⟩
   |true=>
    refine Z1f @Zzd ?_;refine Zmb hG (hc) (gx:=gx1) λgx2=>?_;refine Zu ?_;refine Zmb hG (Zyh G hG sl g a han) (gx:=gx2) λgx3=>?_;refine Zu ?_;intro g58;refine Z8a (λo=>o==1058) [.ptr 8 g 0,Zkb ⟨op1,0,[],0,0,0⟩,.slice .new false 1 [.int .i64 a.last]] [(8,rdO 1031 [.func (.func 259) [] []] sl g gx3 a),(1031,ndO gx3 a.nodes)] ⟨Fz.same _,Fz.same _,?_,trivial⟩ ?_ ?_;exact Z2b (f:=V.int .i64) (l:=[a.last]) (m:=1) (g:=g58) (fz:=0) (c:=.new) rfl zp (λ_=>rfl);simp only[Zv,Zy,and_true];exact⟨FzO.keep rfl zp,FzO.keep rfl zp⟩;refine Zmb hG (Zej G hG sl g a han ⟨op1,0,[],0,0,0⟩ .old (.mk false [a.last]) (Nat.le_of_ble_eq_true rfl)) (gx:=gx3) λgx4=>?_;refine Zu ?_;refine Z ?_;rw[hP];exact⟨rfl,gx4,zr,zr⟩
  subst h3;rw[if_neg zS]at hP;refine Z1 ?_;refine Zm rfl (λh4=>?_) (λh4=>?_)
  .have h4:t=[40]:=zu h4
   rw[if_pos h4]at hP;have hc:=hin 1 r.adv zd zd (Nat.lt_succ_self _) had;have hbl:=(hb 1 r.adv).ok had;generalize inner 1 r.adv=x at hc hP hbl;obtain⟨b,a⟩:=x;simp only at hc hbl
   have hai:a.i<1000000:=by have:=hbl.1;omega
   refine Z1f (zi @Zzd hw) ?_
   cases b with
   |false=>
    refine Z1f @Zzd ?_;refine Zmb hG (hc) (gx:=gx1) λgx2=>?_;refine Zu ?_;refine Z ?_;rw[hP];exact⟨rfl,gx2,zr,zr⟩
   |true=>
    rw[Zkd]at hP;refine Z1f @Zzd ?_;refine Zmb hG (hc) (gx:=gx1) λgx2=>?_;refine Zu ?_;refine Zmb hG (Z0m G hE sl hT g a hai [41]) (gx:=gx2) λgx3=>?_;refine Zu ?_;generalize Z0l sl.l [41] a=y at hP⊢;obtain⟨b,a2⟩:=y
    cases b with
    |true=>
     refine Zs ?_;refine Z ?_;rw[hP];exact⟨rfl,gx3,zr,zr⟩
    |false=>
     refine Zs ?_;refine Z ?_;rw[hP];exact⟨rfl,gx3,zr,zr⟩
  have h4:¬ t=[40]:=zu h4;rw[if_neg h4]at hP;refine Z1 ?_;refine Zm rfl (λh5=>?_) (λh5=>?_)
  have h5:t=wIf:=by
   have h5:(t==[105,102])=true:=h5;exact eq_of_beq h5
  rw[if_pos h5]at hP;refine Z1 ?_;refine Zmb hG (Zxp G hE sl hT g r hr inner hin hb) (gx:=gx1) λgx2=>?_;refine Zu ?_;refine Z ?_;rw[hP];exact⟨rfl,gx2,zr,zr⟩
  have h5:¬ t=wIf:=by
   have h5:(t==[105,102])=false:=h5;exact beq_eq_false_iff_ne.1 h5
  refine Z0 ?_;exact hK1 _ () (.inr ⟨k0,k1,k2,rfl,h4,h5⟩) (Weak.st zp zp)
 rintro _ hcase
 have hP2:Zuh sl.l inner r=if(ofP t 0).2/\k=3 then Zws r (ofP t 0).1 0 []else(false,r.err 80):=by
  rw[hP]
  rcases hcase with k0|⟨k0,k1,k2,k3,k4,k5⟩
  have:=hno0 k0;subst k0;rw[if_neg zd,if_neg zd,if_pos rfl,this,if_neg zS];rw[if_neg k1,if_neg k2,if_neg k0,k3,if_neg zS,if_neg k4,if_neg k5]
 try clear hP
 have hP:=hP2
 try clear hP2 hno0 hcase
 refine Z1 ?_;refine Zn hG ?_ (s:=(Zvr G hG t 0));generalize ofP t 0=o0 at hP⊢;obtain⟨op0,ok⟩:=o0;simp only at hP;refine Zsf @encOf.eq_1 ?_
 cases ok with
 |false=>
  rw[if_neg zS]at hP;refine Z1 ?_;refine Zad rfl ?_;refine Zf @Zzd ?_;rw[hP];exact⟨rfl,gx1,zr,zr⟩
 |true=>
  by_cases k3:k=3
  have e3:(k==3)=true:=zu k3;rw[if_pos ⟨rfl,k3⟩]at hP;refine Z1f e3 ?_;refine Zm rfl (λh7=>?_) (λh7=>?_);refine Z1 ?_;rw[<- Znd ⟨op0,0,[],0,0,0⟩];refine Zmb hG (Zvk G hG sl g r hri hrn op0 0 [] 0 0 0) (gx:=gx1) λgx2=>?_;refine Zu ?_;refine Z ?_;rw[hP];exact⟨rfl,gx2,zr,zr⟩;cases h7;have e3:(k==3)=false:=zu k3;rw[if_neg (λh=>k3 h.2)]at hP;refine Z1f e3 ?_;refine Zad rfl ?_;refine Zf @Zzd ?_;rw[hP];exact⟨rfl,gx1,zr,zr⟩
theorem Zq9(l:List Tk)(inner:Inner)(n:Int)(m:Nat)(r:RS):Zco l inner n (m+1) r=match Z35 l r.i with
  |none=>(true,r)
  |some op=>if lvl op<n then(true,r)else andThen (inner (lvl op+1) r.adv) λa=>Zco l inner n m (a.put ⟨op,0,[],r.last,a.last,-1⟩):=rfl
theorem Z0la{l:List Tk}{i:Nat}:((Zma l i).kind=0\/(ofP (Zma l i).text 2).2=false->Z35 l i=none)/\((Zma l i).kind≠0->(ofP (Zma l i).text 2).2=true->Z35 l i=some (ofP (Zma l i).text 2).1):=by
 unfold Z35 ofP
 constructor
 rintro(h|h);rw[if_pos h]
 split
 rfl
 .cases ho:ofI (Zma l i).text 2 with
  |none=>rfl
  |some op=>rw[ho]at h;cases h
 .intro h h2
  rw[if_neg h]
  cases ho:ofI (Zma l i).text 2 with
  |none=>rw[ho]at h2;cases h2
  |some op=>rfl
theorem ofP_lt(t:List UInt8)(p:Int):(ofP t p).1<23:=by
 unfold ofP
 split
 rename_i h;exact Zioa h
 decide
theorem Zaz(G:Nat->V)(hE:GExp G)(sl:Sl Tk)(hT:TkOk sl.l)(g:Nat):∀ (f:Nat) (n:Int) (r:RS),1<=n->n<=9->sl.l.length<f+r.i->Zi7 sl.l r ->
  RdS 1031 [.func (.func 259) [] []] G 259 [.int .i64 n] sl g r (.bool (Zgb sl.l f n r).1) (Zgb sl.l f n r).2:=by
 have hG:=hE.ok;have hTl:=hT.len;intro f
 induction f with
 |zero=>intro n r _ _ hf hr;have:=hr.1;omega
 |succ f ih=>
 intro n r hn1 hn9 hf hr gx;have hin:∀ i0,r.i<=i0->Zwja G sl g (Zgb sl.l f) i0:=λi0 hi0 n' r' h1 h9 hi hr'=>ih n' r' h1 h9 zo hr';have hbs:=Z5d sl.l f;have hP:Zgb sl.l (f+1) n r=andThen (Zuh sl.l (Zgb sl.l f) r) (Zco sl.l (Zgb sl.l f) n (sl.l.length+1)):=rfl;generalize Zgb sl.l (f+1) n r=res at hP⊢;refine Zo 1000 65 [.tmp 4] Tryz.func259 λX=>?_;have hah:=Zbz G hE sl hT g r hr _ (hin r.i (Nat.le_refl _)) hbs;have hab:=Zor hbs r;generalize Zuh sl.l (Zgb sl.l f) r=y at hP hah hab;obtain⟨b,q0⟩:=y;simp only at hah hab;refine Z1 ?_;refine Z6 ?_
 cases b with
 |false=>
  rw[Zpd]at hP;refine Z1 ?_;refine Zmb hG (hah) (gx:=gx) λgx1=>?_;refine Zu ?_;refine Zm rfl (λh2=>?_) (λh2=>?_);refine Z ?_;rw[hP];exact⟨rfl,gx1,zr,zr⟩;cases h2
 |true=>
 rw[Zkd]at hP;have hq0:=hab.ok hr;refine Z1 ?_;refine Zmb hG (hah) (gx:=gx) λgx1=>?_;refine Zu ?_;refine Z1 ?_;refine Zn hG ?_ (s:=(Zqi G hG));refine Zsf (zi @Zhz (zi @Z2r @Nat.le_refl)) ?_;intro g5;rw[Zjn _ ?hl]
 case hl=>rfl
 refine AW.block ?_
 refine Zcd (fun(x:Nat×Nat×RS)=>st [(0,.ptr 8 g 0),(1,.int .i64 n),(5,.ptr 1005 g5 0)] [(1005,.cells .new g5 0 tabC),(8,rdO 1031 [.func (.func 259) [] []] sl g x.1 x.2.2),(1031,ndO x.1 x.2.2.nodes)])
  (λx=>res=Zco sl.l (Zgb sl.l f) n x.2.1 x.2.2/\Zi7 sl.l x.2.2/\r.i<=x.2.2.i/\sl.l.length<x.2.1+x.2.2.i) (λx=>x.2.1) (gx1,sl.l.length+1,q0) ⟨hP,hq0,hab.up,Nat.lt_add_right _ (Nat.lt_succ_self _)⟩
  (Weak.st zp zp) ?_
 try clear hP
 rintro⟨gy,m,q⟩ ⟨hP,hq,hqi,hm⟩ L3 hL3
 replace hP:res=Zco sl.l (Zgb sl.l f) n m q:=hP
 replace hq:Zi7 sl.l q:=hq
 replace hqi:r.i<=q.i:=hqi
 replace hm:sl.l.length<m+q.i:=hm
 obtain⟨m,rfl⟩:∃ m',m=m'+1:=⟨m-1,by have:=hq.1;omega⟩
 have hqI:q.i<1000000:=by have:=hq.1;omega
 have hqn:q.nodes.length<1000000:=by have:=hq.1;have:=hq.2;omega
 rw[Zq9]at hP;have hop:=Z0la (l:=sl.l) (i:=q.i);have hlt23:=ofP_lt (Zma sl.l q.i).text 2;have htl:=Z9n hT q.i
 have hbnd:∀ op,Z35 sl.l q.i=some op->1<=lvl op/\lvl op<=8:=λop h=>by have:=op_pos h;exact⟨this.2.2.1,this.2.2.2⟩
 have hilt:∀ op,Z35 sl.l q.i=some op->q.i<sl.l.length:=λop h=>Zkfa h;refine Z1 ?_;refine Zmb hG (Zuk G hE sl hT g q hqI) (gx:=gy) λgz=>?_;refine Zu ?_;refine Zsf @Zed ?_;intro g6;generalize Z35 sl.l q.i=oa at hP hop hbnd hilt;generalize Zma sl.l q.i=t at hop hlt23 htl⊢;obtain⟨k,t,p⟩:=t;simp only at hop hlt23 htl;refine Z1 ?_;refine Zn hG ?_ (s:=(Zvr G hG t 2));generalize ofP t 2=o2 at hop hlt23⊢;obtain⟨op,ok⟩:=o2;simp only at hop hlt23;refine Zsf @encOf.eq_1 ?_;have hlv:=Zlka op hlt23;have hi23:(op:Int)<23:=zo;refine Z1f (zi hi23 (zi @Int.natCast_nonneg (zi hlv @Nat.zero_add))) ?_;refine Z6 ?_
 cases ok with
 |false=>
  rw[hop.1 (.inr rfl)]at hP;refine Z1 ?_;refine Zm rfl (λh9=>?_) (λh9=>?_);refine Z ?_;rw[hP];exact⟨rfl,gz,zr,zr⟩;cases h9
 |true=>
 by_cases hk:k=0
 have e1:(k==0)=true:=zu hk;rw[hop.1 (.inl hk)]at hP;refine Z1f e1 ?_;refine Zm rfl (λh9=>?_) (λh9=>?_);refine Z ?_;rw[hP];exact⟨rfl,gz,zr,zr⟩;cases h9;have e1:(k==0)=false:=zu hk;have hoa:=hop.2 hk rfl;rw[hoa]at hP;simp only at hP;obtain⟨hl1,hl8⟩:=hbnd op hoa;have hil:=hilt op hoa;generalize lvl op=lv at hP hl1 hl8⊢
 by_cases hlt:lv<n
 have e2:decide (lv<n)=true:=zu hlt;rw[if_pos hlt]at hP;refine Z1f (zi e1 e2) ?_;refine Zm rfl (λh9=>?_) (λh9=>?_);refine Z ?_;rw[hP];exact⟨rfl,gz,zr,zr⟩;cases h9;have e2:decide (lv<n)=false:=zu hlt;rw[if_neg hlt]at hP;refine Z1f (zi e1 e2) ?_;refine Z0 ?_
 have hw:IntKind.i64.wrap ((q.i:Int)+1)=((q.i+1:Nat):Int):=by rw[w64 zo zo];omega
 have hw2:IntKind.i64.wrap (lv+1)=lv+1:=w64 zo zo;have hadv:Zi7 sl.l q.adv:=(Bal.adv hil).ok hq;have hc:=ih (lv+1) q.adv zo zo (by show sl.l.length<f+(q.i+1);omega) hadv;have hcb:=hbs (lv+1) q.adv;generalize Zgb sl.l f (lv+1) q.adv=z at hP hc hcb;obtain⟨b,a⟩:=z;simp only at hc hcb;have ha:=hcb.ok hadv;have haup:q.i+1<=a.i:=hcb.up
 have han:a.nodes.length<1000000:=by have:=ha.1;have:=ha.2;omega
 refine Z1 ?_;refine Zmb hG (Zyh G hG sl g q hqn) (gx:=gz) λgz1=>?_;refine Zu ?_;refine Z1f (zi @Zzd hw) ?_;refine Z6 ?_
 cases b with
 |false=>
  rw[Zpd]at hP;refine Z1f (zi @Zzd hw2) ?_;refine Zmb hG (hc) (gx:=gz1) λgz2=>?_;refine Zu ?_;refine Zm rfl (λh11=>?_) (λh11=>?_);refine Z ?_;rw[hP];exact⟨rfl,gz2,zr,zr⟩;cases h11
 |true=>
  rw[Zkd]at hP;refine Z1f (zi @Zzd hw2) ?_;refine Zmb hG (hc) (gx:=gz1) λgz2=>?_;refine Zu ?_;refine Z1 ?_;refine Zmb hG (Zyh G hG sl g a han) (gx:=gz2) λgz3=>?_;refine Zu ?_;intro g63;refine Z8a (λo=>o==1063) [.ptr 8 g 0,Zkb ⟨op,0,[],0,0,0⟩,.slice .new false 1 [.int .i64 q.last,.int .i64 a.last]] [(8,rdO 1031 [.func (.func 259) [] []] sl g gz3 a),(1031,ndO gz3 a.nodes),(1005,.cells .new g5 0 tabC)] ⟨Fz.same _,Fz.same _,?_,trivial⟩ ?_ ?_;exact Z2b (f:=V.int .i64) (l:=[q.last,a.last]) (m:=1) (g:=g63) (fz:=0) (c:=.new) rfl zp (λ_=>rfl);simp only[Zv,Zy,and_true];exact⟨FzO.keep rfl zp,FzO.keep rfl zp,FzO.keep rfl zp⟩;refine Zmb hG (Zej G hG sl g a han ⟨op,0,[],0,0,0⟩ .old (.mk false [q.last,a.last]) (Nat.le_of_ble_eq_true rfl)) (gx:=gz3) λgz4=>?_;refine Zu ?_
  have hres:Zi7 sl.l (a.put ⟨op,0,[],q.last,a.last,-1⟩):=⟨ha.1,by
   have h1:=hcb.cnt;have h2:=hq.2
   show(a.nodes++[_]).length<=a.i
   rw[List.length_append,List.length_singleton];have h3:a.nodes.length+(q.i+1)+0<=q.nodes.length+a.i:=h1
   omega⟩
  refine hL3 _ ⟨(gz4,m,a.put ⟨op,0,[],q.last,a.last,-1⟩),Nat.lt_succ_self _,⟨hP,hres,?_,?_⟩,Weak.st zp (by refine Zs ?_;exact⟨rfl,rfl⟩)⟩
  show r.i<=a.i
  omega
  show sl.l.length<m+a.i
  omega
end Go.Hs
end

section
namespace Go.Hs
def nthP(l:List XN)(i:Int):Option XN:=if i<0 then none else l[i.toNat]?
def At(l:List XN)(x:X)(b:Nat):Prop:=∃ pre post,l=pre++x.row b++post/\pre.length=b
theorem X.row_top:∀ (x:X) (k:Int),∃ body,x.row k=body++[x.top k]/\body.length+1=x.size
 |.leaf op num name,k=>⟨[],rfl,rfl⟩
 |.un op a,k=>⟨a.row k,rfl,by rw[X.row_len];rfl⟩
 |.bin op a b,k=>⟨a.row k++b.row (k+a.size),rfl,by rw[List.length_append,X.row_len,X.row_len];rfl⟩
 |.ite a b c,k=>⟨a.row k++b.row (k+a.size)++c.row (k+a.size+b.size),rfl,by rw[List.length_append,List.length_append,X.row_len,X.row_len,X.row_len];rfl⟩
theorem At.top{l:List XN}{x:X}{b:Nat}(h:At l x b):nthP l ((b:Int)+x.size-1)=some (x.top b):=by
 obtain⟨pre,post,rfl,hb⟩:=h;obtain⟨body,h1,h2⟩:=x.row_top b;unfold nthP;rw[if_neg (by omega)]
 have:((b:Int)+x.size-1).toNat=(pre++body).length:=by rw[List.length_append];omega
 rw[this,h1,show pre++(body++[x.top b])++post=(pre++body)++(x.top b::post) by simp];rw[List.getElem?_append_right (Nat.le_refl _)];simp
theorem At.get{l:List XN}{x:X}{b:Nat}(h:At l x b):l[b+x.size-1]?=some (x.top b):=by
 have:=h.top;unfold nthP at this;have hp:=x.size_pos;rw[if_neg (by omega)]at this;rw[<- this];congr 1;omega
theorem At.un{l:List XN}{op:Int}{a:X}{b:Nat}(h:At l (.un op a) b):At l a b:=by
 obtain⟨pre,post,rfl,hb⟩:=h;exact⟨pre,_,by simp only[X.row,List.append_assoc];rfl,hb⟩
theorem At.bin{l:List XN}{op:Int}{x y:X}{b:Nat}(h:At l (.bin op x y) b):At l x b/\At l y (b+x.size):=by
 obtain⟨pre,post,rfl,hb⟩:=h;refine⟨⟨pre,y.row (b+x.size)++[X.top (.bin op x y) b]++post,by simp only[X.row,List.append_assoc];rfl,hb⟩,⟨pre++x.row b,[X.top (.bin op x y) b]++post,?_,by rw[List.length_append,X.row_len,hb]⟩⟩;simp only[X.row,List.append_assoc];rfl
theorem At.ite{l:List XN}{x y z:X}{b:Nat}(h:At l (.ite x y z) b):At l x b/\At l y (b+x.size)/\At l z (b+x.size+y.size):=by
 obtain⟨pre,post,rfl,hb⟩:=h;refine⟨⟨pre,y.row (b+x.size)++z.row (b+x.size+y.size)++[X.top (.ite x y z) b]++post,by simp only[X.row,List.append_assoc];rfl,hb⟩,⟨pre++x.row b,z.row (b+x.size+y.size)++[X.top (.ite x y z) b]++post,?_,by rw[List.length_append,X.row_len,hb]⟩,⟨pre++x.row b++y.row (b+x.size),[X.top (.ite x y z) b]++post,?_,by rw[List.length_append,List.length_append,X.row_len,X.row_len,hb]⟩⟩;simp only[X.row,List.append_assoc];rfl;simp only[X.row,List.append_assoc];rfl
theorem Z6na(x:X):At (x.row 0) x 0:=⟨[],[],by simp,rfl⟩
end Go.Hs
end

section
namespace Go.Hs
open Go.Proofs
set_option maxRecDepth 10000
theorem Zvz(G:Nat->V)(hG:GOk G)(ca cb:Col)(a b:Sl Int)(ha:a.l.length<1000000000):
  Spec Tryz.prog G 282 [Za ca 1 (V.int .i64) a,Za cb 1 (V.int .i64) b] Zk (λv _=>v=.bool (a.l==b.l)):=by
 refine Zo 0 26 [.tmp 4] Tryz.func282 λX=>?_;refine Z1 ?_;refine Z1 ?_;refine Zm rfl (λh2=>?_) (λh2=>?_);refine Z ?_;simp at h2⊢;intro e;rw[e]at h2;exact h2 rfl;refine Z0 ?_
 have hl:a.l.length=b.l.length:=by simp at h2;omega
 refine Z1 ?_;refine AW.block ?_
 refine Zaa a.l.length (λk (_:Unit)=>st [(0,Za ca 1 (V.int .i64) a),(1,Za cb 1 (V.int .i64) b),(12,.int .i64 a.l.length),(13,.int .i64 k)] []) (λk _=>a.l.take k=b.l.take k) 0 () (Nat.zero_le _) zS
  (Weak.st (by simp -implicitDefEqProofs only[go_sem,seval];try simp) zp) ?_
 intro k _ hk hR L4 hL4;refine Z1 ?_;refine Z6 ?_;refine Zm rfl (λh6=>?_) (λh6=>?_);refine Z0 ?_;have hk1:k<a.l.length:=zu h6;have hk2:k<b.l.length:=zo;refine Z1 ?_
 refine Z6<|Zp ⟨λ_=>.top,λ_=>.pure⟩ zk hG zk zk ?_
 simp -implicitDefEqProofs only[go_sem,seval,List.getElem?_eq_getElem hk1,List.getElem?_eq_getElem hk2];refine Zm rfl (λh8=>?_) (λh8=>?_);refine Z ?_;simp at h8;simp;intro e;simp[e]at h8;refine Z0 ?_;have h3':a.l[k]=b.l[k]:=zu h8;refine Z1 ?_;refine hL4 _ ⟨hk1,(),?_,Weak.st (by refine Zs ?_;simp;exact w64 zo zo) zp⟩;rw[List.take_succ_eq_append_getElem hk1,List.take_succ_eq_append_getElem hk2,hR,h3'];refine Z0 ?_
 have hk1:k=a.l.length:=by simp at h6;omega
 refine Z ?_;subst hk1;rw[List.take_length,hl,List.take_length]at hR;simp[hR]
theorem Zn7(G:Nat->V)(hE:GExp G)(n:XN)(hn:n.name.length<100000):Spec Tryz.prog G 281 [Zkb n] Zk (λv _=>v=.bool (Zxg n)):=by
 have hG:=hE.ok;refine Zo 0 43 [.tmp 2] Tryz.func281 λX=>?_
 have hW:Zxg n=if n.op<1\/n.op>22\/n.num<0 then false else if n.op=2 then n.num==0&&isP n.name==2 else n.name==[]&&(n.op==1||n.num==0):=rfl
 obtain⟨op,num,name,a,b,c⟩:=n;simp only at hn hW;simp only[Znd];refine Zha λK hK=>AW.region zk ?_;refine Zs ?_;intro g1;refine hK _ ?_
 try clear hK K
 refine Zlc (fun(_:Unit)=>st [(1,.ptr 1 g1 0)] [(1,.cells .new g1 0 [.int .u8 op,.int .i64 num,.str name,.int .i64 a,.int .i64 b,.int .i64 c])]) (λ_=>¬ (op<1\/op>22\/num<0)/\op≠2) (λK1 hK1=>?_) ?_;refine AW.block ?_
 by_cases h0:op<1\/op>22\/num<0
 .rw[if_pos h0]at hW
  have key:∀ K:AS->Prop,(K (st [(1,.ptr 1 g1 0),(3,.bool true)] [(1,.cells .new g1 0 [.int .u8 op,.int .i64 num,.str name,.int .i64 a,.int .i64 b,.int .i64 c])]))->True:=λ_ _=>trivial
  cases h1:decide (op<1)<;>cases h2:decide (op>22)<;>cases h3:decide (num<0)
  simp only[decide_eq_false_iff_not]at h1 h2 h3
  rcases h0 with h|h|h
  exact absurd h h1;exact absurd h h2;exact absurd h h3
  all_goals
   (refine Zha λK hK=>AW.region zk ?_;refine Zsf (zi h1 (zi h2 h3)) ?_;refine hK _ ?_;clear hK K)
   refine Zm (b:=true) zp (λ_=>?_) (λh=>by cases h)
   (refine Zha λK hK=>AW.region zk ?_;refine Zs ?_;refine hK _ ?_;clear hK K)
   (refine AW.ret ?_;refine Zs ?_;refine Z6b ?_)
   rw[hW]
 .have h1:decide (op<1)=false:=by rw[decide_eq_false_iff_not];exact λh=>h0 (.inl h)
  have h2:decide (op>22)=false:=by rw[decide_eq_false_iff_not];exact λh=>h0 (.inr (.inl h))
  have h3:decide (num<0)=false:=by rw[decide_eq_false_iff_not];exact λh=>h0 (.inr (.inr h))
  rw[if_neg h0]at hW;refine Zha λK hK=>AW.region zk ?_;refine Zsf (zi h1 (zi h2 h3)) ?_;refine hK _ ?_
  try clear hK K
  refine Zad rfl ?_
  try clear h4
  refine Zha λK hK=>AW.region zk ?_;refine Zs ?_;refine hK _ ?_
  try clear hK K
  refine Zm rfl (λh5=>?_) (λh5=>?_)
  .have h5:op=2:=zu h5
   rw[if_pos h5]at hW
   cases h6:(num==0)with
   |false=>
    refine Zha λK hK=>AW.region zk ?_;refine Zsf h6 ?_;refine hK _ ?_
    try clear hK K
    refine Z ?_
    rw[hW,h6]<;>rfl
   |true=>
    refine Zha λK hK=>AW.region zk ?_;refine Zsf h6 ?_;refine Zc hG ?_ (s:=(Zmf G hE name zo));refine hK _ ?_
    try clear hK K
    refine Z ?_;rw[hW,h6,Bool.true_and];generalize isP name=z
    cases hz:(z==2)with
    |true=>
     have:((z:Int)==2)=true:=by rw[beq_iff_eq]at hz⊢;omega
     rw[this]
    |false=>
     have:((z:Int)==2)=false:=by rw[beq_eq_false_iff_ne]at hz⊢;omega
     rw[this]
  have h5:¬ op=2:=zu h5;refine Z0 ?_;exact hK1 _ () ⟨h0,h5⟩ (Weak.st zp zp)
 rintro _ ⟨h0,h5⟩;rw[if_neg h0,if_neg h5]at hW
 cases h1:(name==[])<;>cases h2:(op==1)<;>cases h3:(num==0)<;>((refine Zha λK hK=>AW.region zk ?_;refine Zsf (zi h1 (zi h2 h3)) ?_;refine hK _ ?_;clear hK K);(refine AW.ret ?_;refine Zs ?_;refine Z6b ?_);rw[hW,h1,h2,h3]<;>rfl)
def Zyf(p:Int×Int):V:=.agg [.int .i64 p.1,.int .i64 p.2]
theorem Z2i(p:Int×Int):(Zyf p).cells.length=2:=rfl
theorem Ziaa{l:List XN}{k:Nat}{n:XN}(h:l[k]?=some n)(i:Int)(opn:List (Int×Int)):Zfk (l.drop k) i opn=match Zel i n opn with|some o=>Zfk (l.drop (k+1)) (i+1) o|none=>none:=by
 obtain⟨h1,h2⟩:=List.getElem?_eq_some_iff.1 h
 rw[List.drop_eq_getElem_cons h1,h2]<;>rfl
theorem Z7ea{op:Int}(h1:1<=op)(h2:op<=22):tabC[op.toNat*3+2]?=some (.int .i64 (Z5 op:Nat)):=by
 obtain⟨n,rfl⟩:∃ n:Nat,op=n:=⟨op.toNat,zo⟩;rw[Int.toNat_natCast,Zk5 n zo 2 zd]
 have:∀ n:Nat,n<23->1<=n->(tabL.getD n ⟨[],0,0⟩).parts=(Z5 n:Nat):=by decide +kernel
 rw[<- this n zo zo]<;>rfl
theorem Z7ga:∀ (l:List (Int×Int)) (i:Nat) (x:Int×Int),l[i]?=some x->((flat (l.map Zyf)).drop (i*2)).take 2=[.int .i64 x.1,.int .i64 x.2]
 |[],i,x,h=>by simp at h
 |y::r,0,x,h=>by
  have:y=x:=zu h;subst this;rfl
 |y::r,i+1,x,h=>by
  have ih:=Z7ga r i x (zu h);rw[<- ih,List.map_cons];have:flat (Zyf y::r.map Zyf)=.int .i64 y.1::.int .i64 y.2::flat (r.map Zyf):=rfl;rw[this,show(i+1)*2=i*2+1+1 by omega,List.drop_succ_cons,List.drop_succ_cons]
def plC(l:List (Int×Int)):List V:=(Zgc l).map (V.int .i64)
theorem plC_set:∀ (l:List (Int×Int)) (j:Nat) (x:Int×Int),l[j]?=some x->j<3->Hs.setAt (plC (l.take j)) j [.int .i64 x.1]=plC (l.take (j+1)):=by
 intro l j x h hj
 match l,j,h,hj with
 |a::r,0,h,_=>
  have:a=x:=zu h;subst this;rfl
 |a::b::r,1,h,_=>
  have:b=x:=zu h;subst this;rfl
 |a::b::c::r,2,h,_=>
  have:c=x:=zu h;subst this;rfl
theorem Zxv(l:List (Int×Int))(j:Nat)(x:Int×Int)(h:l[j]?=some x):Zfd (l.take (j+1))=max (Zfd (l.take j)) x.2:=by
 unfold Zfd
 rw[List.take_add_one,h,List.foldl_append]<;>rfl
theorem plC_len(l:List (Int×Int)):(plC l).length=3:=rfl
theorem Zy8(op:Int):Z5 op<=3:=by
 unfold Z5
 split
 omega
 split
 omega
 split<;>omega
theorem Zjaa{l:List (Int×Int)}{k:Int}(hk:0<=k)(h:∀ y∈l,(0:Int)<=y.2/\y.2<=k):0<=Zfd l/\Zfd l<=k:=by
 have:∀ (l:List (Int×Int)) (d:Int),0<=d->d<=k->(∀ y∈l,(0:Int)<=y.2/\y.2<=k)->0<=l.foldl (λd p=>max d p.2) d/\l.foldl (λd p=>max d p.2) d<=k:=by
  intro l
  induction l with
  |nil=>intro d h1 h2 _;exact⟨h1,h2⟩
  |cons y r ih=>
   intro d h1 h2 h3;have:=h3 y zS;exact ih (max d y.2) zo zo λz hz=>h3 z (by simp[hz])
 exact this l 0 (Int.le_refl _) hk h
theorem Z6ga(l:List (Int×Int))(n:Nat):(flat (l.map Zyf)).take (n*2)=flat ((l.take n).map Zyf):=by
 induction l generalizing n with
 |nil=>simp[flat]
 |cons y r ih=>
  cases n with
  |zero=>simp[flat]
  |succ n=>
   have e:flat ((y::r).map Zyf)=.int .i64 y.1::.int .i64 y.2::flat (r.map Zyf):=rfl
   rw[e,List.take_succ_cons,List.map_cons,show(n+1)*2=n*2+1+1 by omega,List.take_succ_cons,List.take_succ_cons,ih]<;>rfl
theorem Z1m(G:Nat->V)(hE:GExp G)(c:Col)(s:Sl XN)(hs:s.l.length<1000000)(hnm:∀ n∈s.l,n.name.length<100000):
  Spec Tryz.prog G 260 [.agg [Za c 6 Zkb s]] Zk (λv _=>v=.int .i64 (Zod s.l)):=by
 have hG:=hE.ok;refine Zo 0 81 [.tmp 2] Tryz.func260 λX=>?_
 have hD:Zod s.l=match Zfk s.l 0 []with|some [x]=>x.2|_=>0:=rfl
 have hnone:Zfk s.l 0 []=none->Zod s.l=0:=λh=>by rw[hD,h]
 refine Z1 ?_;intro g1;refine Z1 ?_;refine Zn hG ?_ (s:=(Zqi G hG));refine Zsf (zi @Zhz (zi @Z2r @Nat.le_refl)) ?_;intro g3;rw[Zjn _ ?hl]
 case hl=>rfl
 refine Z1 ?_;refine Z1 ?_;refine AW.block ?_
 refine Zaa s.l.length (λk (x:Nat×List (Int×Int))=>st [(3,.ptr 3 g3 0),(4,grown 72 x.1 2 x.2),(14,Za c 6 Zkb s),(15,.int .i64 s.l.length),(16,.int .i64 k)] [(3,.cells .new g3 0 tabC),(72,Zca x.1 Zyf x.2)])
  (λk x=>Zfk s.l 0 []=Zfk (s.l.drop k) k x.2/\x.2.length<=k/\∀ y∈x.2,(0:Int)<=y.2/\y.2<=k) 0 (0,[]) (Nat.zero_le _) ⟨zS,Nat.le_refl _,zS⟩
  (Weak.st zp zp) ?_
 rintro k ⟨gx,opn⟩ hk ⟨hR,hol,hdp⟩ L2 hL2
 replace hR:Zfk s.l 0 []=Zfk (s.l.drop k) k opn:=hR
 replace hol:opn.length<=k:=hol
 replace hdp:∀ y∈opn,(0:Int)<=y.2/\y.2<=k:=hdp
 refine Z1 ?_;refine Z6 ?_;refine Zm rfl (λh4=>?_) (λh4=>?_)
 .have hk1:k<s.l.length:=zu h4
  have hg:=List.getElem?_eq_getElem hk1;have hnn:=hnm _ (List.getElem_mem hk1);generalize s.l[k]=n at hg hnn;rw[Ziaa hg]at hR;refine Z1f (zi hg @Znd) ?_;intro g6;refine Z1 ?_;rw[<- Znd];refine Zcf @Zrj hG ?_ (s:=(Zn7 G hE n hnn))
  have hst:Zel k n opn=if Zxg n=false then none else if opn.length<Z5 n.op then none
   else if Zgc (opn.drop (opn.length-Z5 n.op))≠[n.a,n.b,n.c]then none
   else some (opn.take (opn.length-Z5 n.op)++[((k:Int),Zfd (opn.drop (opn.length-Z5 n.op))+1)]):=rfl
  cases hw:Zxg n with
  |false=>
   rw[if_pos hw]at hst;rw[hst]at hR;refine Zm rfl (λh7=>?_) (λh7=>?_);refine Z ?_;rw[hnone hR];cases h7
  |true=>
  rw[if_neg (by rw[hw];simp)]at hst;refine Z0 ?_;have hrg:=Zwk hw;have hpt:=Z7ea hrg.1 hrg.2;have hp3:Z5 n.op<=3:=Zy8 _;generalize hpd:Z5 n.op=p at hst hpt hp3;have hop0:(0:Int)<=n.op:=zo;have hop23:n.op<23:=zo;have hsub:IntKind.i64.wrap ((opn.length:Int)-(p:Int))=(opn.length:Int)-p:=w64 zo zo;refine Z1f (zi hop0 (zi hop23 (zi hpt (zi hsub @Nat.zero_add)))) ?_;refine Z6 ?_
  by_cases hlt:opn.length<p
  have e1:decide ((opn.length:Int)-p<0)=true:=zT;rw[if_pos hlt]at hst;rw[hst]at hR;refine Z1f e1 ?_;refine Zm rfl (λh9=>?_) (λh9=>?_);refine Z ?_;rw[hnone hR];cases h9;have e1:decide ((opn.length:Int)-p<0)=false:=zF;rw[if_neg hlt]at hst;refine Z1f e1 ?_;refine Z0 ?_;obtain⟨kk,hkk⟩:∃ kk:Nat,kk=opn.length-p:=⟨_,rfl⟩;rw[<- hkk]at hst;have hkd:(opn.length:Int)-p=(kk:Int):=zo;rw[hkd];refine Z1 ?_;intro g34;have hkl:kk+p=opn.length:=zo
  refine Zlc (fun(_:Unit)=>st [(3,.ptr 3 g3 0),(4,grown 72 gx 2 opn),(5,.int .i64 k),(6,.ptr 6 g6 0),(7,.int .i64 kk),(8,.msl 34 g34 0 3 1),(9,.int .i64 (Zfd (opn.drop kk))),(14,Za c 6 Zkb s),(15,.int .i64 s.l.length),(16,.int .i64 k)]
    [(3,.cells .new g3 0 tabC),(72,Zca gx Zyf opn),(6,.cells .new g6 0 [.int .u8 n.op,.int .i64 n.num,.str n.name,.int .i64 n.a,.int .i64 n.b,.int .i64 n.c]),(34,.cells .new g34 0 (plC (opn.drop kk)))])
   (λ_=>True) (λK10 hK10=>?_) ?_
  by_cases hp0:p=0
  have hdn:opn.drop kk=[]:=List.drop_eq_nil_of_le zo;rw[hdn]at hK10;subst hp0;have hkle:kk<=opn.length:=zo;have hnlt:¬ kk<opn.length:=zo
  by_cases hne:opn=[]
  subst hne;have hk0:kk=0:=zu hkl;subst hk0;refine Zne zk ?_;simp -implicitDefEqProofs only[go_sem,seval,Znc,Z1c,and_self];refine AW.block ?_
  refine Zaa 0 (λj (_:Unit)=>st [(3,.ptr 3 g3 0),(5,.int .i64 k),(4,.nils),(6,.ptr 6 g6 0),(7,.int .i64 (0:Nat)),(8,.msl 34 g34 0 3 1),(9,.int .i64 0),(14,Za c 6 Zkb s),(15,.int .i64 s.l.length),(16,.int .i64 k),(38,.int .i64 0),(39,.int .i64 j)]
    [(3,.cells .new g3 0 tabC),(6,.cells .new g6 0 [.int .u8 n.op,.int .i64 n.num,.str n.name,.int .i64 n.a,.int .i64 n.b,.int .i64 n.c]),(34,.cells .new g34 0 (plC []))])
   (λj _=>True) 0 () (Nat.zero_le _) trivial (Weak.st zp zp) ?_
  intro j _ hj _ L11 hL11;obtain rfl:j=0:=zo;refine Z1 ?_;refine Z0 ?_;refine Z0 ?_;exact hK10 _ () trivial (Weak.st (zpf @Znc) (zpf @Z1c))
  have hk0:¬ kk=0:=by
   intro h;have:opn.length=0:=zo;exact hne (List.length_eq_zero_iff.1 this)
  refine Zne zk ?_;simp -implicitDefEqProofs only[go_sem,seval,Z2a 72 gx 2 hne,hkle,Nat.le_refl,and_self,hk0,hnlt];refine AW.block ?_
  refine Zaa 0 (λj (_:Unit)=>st [(3,.ptr 3 g3 0),(4,grown 72 gx 2 opn),(5,.int .i64 k),(6,.ptr 6 g6 0),(7,.int .i64 kk),(8,.msl 34 g34 0 3 1),(9,.int .i64 0),(14,Za c 6 Zkb s),(15,.int .i64 s.l.length),(16,.int .i64 k),(38,.int .i64 0),(39,.int .i64 j)]
    [(3,.cells .new g3 0 tabC),(72,Zca gx Zyf opn),(6,.cells .new g6 0 [.int .u8 n.op,.int .i64 n.num,.str n.name,.int .i64 n.a,.int .i64 n.b,.int .i64 n.c]),(34,.cells .new g34 0 (plC []))])
   (λj _=>True) 0 () (Nat.zero_le _) trivial (Weak.st (by refine Zs ?_;rw[Z2a 72 gx 2 hne];try exact⟨rfl,rfl⟩) zp) ?_
  intro j _ hj _ L11 hL11;obtain rfl:j=0:=zo;refine Z1 ?_;refine Z0 ?_;refine Z0 ?_;exact hK10 _ () trivial (Weak.st zp zp)
  have hne:opn≠[]:=by intro e;rw[e]at hkl;simp at hkl;omega
  have hsl:(if kk=0 then V.msl 72 gx 0 opn.length 2 else if kk<opn.length then V.msl 72 gx (kk*2) (opn.length-kk) 2 else V.slice .any false 2 [])=.msl 72 gx (kk*2) p 2:=by
   by_cases h0:kk=0
   rw[if_pos h0];congr 1<;>omega
   rw[if_neg h0,if_pos zo];congr 1;omega
  have hkle:kk<=opn.length:=zo;refine Zne zk ?_;simp -implicitDefEqProofs only[go_sem,seval,Z2a 72 gx 2 hne,hkle,Nat.le_refl,and_self,hsl,Nat.zero_add];refine AW.block ?_
  refine Zaa p (λj (_:Unit)=>st [(3,.ptr 3 g3 0),(4,grown 72 gx 2 opn),(5,.int .i64 k),(6,.ptr 6 g6 0),(7,.int .i64 kk),(8,.msl 34 g34 0 3 1),(9,.int .i64 (Zfd ((opn.drop kk).take j))),(14,Za c 6 Zkb s),(15,.int .i64 s.l.length),(16,.int .i64 k),(37,.msl 72 gx (kk*2) p 2),(38,.int .i64 p),(39,.int .i64 j)]
    [(3,.cells .new g3 0 tabC),(72,Zca gx Zyf opn),(6,.cells .new g6 0 [.int .u8 n.op,.int .i64 n.num,.str n.name,.int .i64 n.a,.int .i64 n.b,.int .i64 n.c]),(34,.cells .new g34 0 (plC ((opn.drop kk).take j)))])
   (λj _=>True) 0 () (Nat.zero_le _) trivial
   (Weak.st (by refine Zs ?_;rw[Z2a 72 gx 2 hne];exact⟨rfl,rfl⟩) zp) ?_
  intro j _ hj _ L11 hL11;refine Z1 ?_;refine Z6 ?_;refine Zm rfl (λh13=>?_) (λh13=>?_);have hj1:j<p:=zL h13;refine Z0 ?_;refine Z6 ?_;refine AW.block ?_;obtain⟨x,hx⟩:∃ x,opn[kk+j]?=some x:=⟨_,List.getElem?_eq_getElem zo⟩
  have hxd:(opn.drop kk)[j]?=some x:=by rw[List.getElem?_drop];exact hx
  have hfp:=Z7ga opn (kk+j) x hx;rw[show(kk+j)*2=kk*2+j*2 by omega]at hfp
  have hfl:kk*2+j*2+2<=(flat (opn.map Zyf)).length:=by rw[Zjb (m:=2) Z2i];omega
  have hps:=plC_set (opn.drop kk) j x hxd zo;have hds:=Zxv (opn.drop kk) j x hxd;have hpl:=plC_len ((opn.drop kk).take j);generalize plC ((opn.drop kk).take j)=pc at hps hpl⊢;generalize Zfd ((opn.drop kk).take j)=dd at hds⊢;have hj3:(j:Int)<3:=zo;refine Zne zk ?_;simp -implicitDefEqProofs only[go_sem,seval,Zfb gx Zyf hne,hfp,hfl,Int.natCast_nonneg,hj1,Int.ofNat_lt];intro g11
  refine AW.weak (Zw (λo=>o==11) (l:=[(3,.ptr 3 g3 0),(4,grown 72 gx 2 opn),(5,.int .i64 k),(6,.ptr 6 g6 0),(7,.int .i64 kk),(8,.msl 34 g34 0 3 1),(9,.int .i64 dd),(10,.int .i64 j),(11,.view .new (.agg [.int .i64 x.1,.int .i64 x.2])),(14,Za c 6 Zkb s),(15,.int .i64 s.l.length),(16,.int .i64 k),(37,.msl 72 gx (kk*2) p 2),(38,.int .i64 p),(39,.int .i64 j)])
   (m:=[(3,.cells .new g3 0 tabC),(72,Zca gx Zyf opn),(6,.cells .new g6 0 [.int .u8 n.op,.int .i64 n.num,.str n.name,.int .i64 n.a,.int .i64 n.b,.int .i64 n.c]),(34,.cells .new g34 0 pc)]) ?_ ?_) ?_
  refine Zs ?_;refine⟨Fz.same _,Fz.same _,Fz.same _,Fz.same _,Fz.same _,Fz.same _,Fz.same _,Fz.same _,?_,Fz.same _,Fz.same _,Fz.same _,Fz.same _,Fz.same _,Fz.same _⟩;exact Fz.ptr (v:=.agg [.int .i64 x.1,.int .i64 x.2]) (c:=.new) (fz:=0) rfl zp;simp only[Zv,Zy,and_true];exact⟨FzO.keep rfl zp,FzO.keep rfl (by first|rfl|(rw[Zfb gx Zyf hne]<;>rfl)|(simp -implicitDefEqProofs only[go_sem,seval];try rfl)),FzO.keep rfl zp,FzO.keep rfl zp⟩;refine Zp ⟨λ_=>.top,λi=>if i=3 then .lend else if i=6 then .lend else .pure⟩ zk hG zk zk ?_;have hjl:j+1<=pc.length:=zo;have hset:pc.set j (.int .i64 x.1)=plC ((opn.drop kk).take (j+1)):=hps
  have hmx:(if x.2>dd then x.2 else dd)=max dd x.2:=by
   rw[Int.max_def];split<;>split<;>omega
  simp -implicitDefEqProofs only[go_sem,seval,hj3,Int.natCast_nonneg,Nat.mul_one,Nat.zero_le,hjl,hset,hmx,<- hds];refine Z1 ?_;refine hL11 _ ⟨hj1,(),trivial,Weak.st zw zp⟩
  have hj1:j=p:=by have:=zN h13;omega
  have htk:(opn.drop kk).take j=opn.drop kk:=List.take_of_length_le (by rw[List.length_drop];omega);rw[htk];refine Z0 ?_;exact hK10 _ () trivial (Weak.st zp zp);intro _ _;refine Z6 ?_;have hpl:Zgc (opn.drop kk)=[(Zgc (opn.drop kk)).getD 0 0,(Zgc (opn.drop kk)).getD 1 0,(Zgc (opn.drop kk)).getD 2 0]:=rfl;refine Z1 ?_;intro g61;refine CallA.bor hG [Za .old 1 (V.int .i64) (.mk false (Zgc (opn.drop kk))),Za .old 1 (V.int .i64) (.mk false [n.a,n.b,n.c])] zk ⟨?_,?_,trivial⟩ ?_;exact Rd.msl (off:=0) (n:=3) (l:=Zgc (opn.drop kk)) (f:=V.int .i64) (f':=V.int .i64) (g:=g34) (fz:=0) (c:=.new) (by refine Zs ?_;exact congrArg (AObj.cells Col.new g34 0) (Zcr _ _).symm) (λ_=>rfl) (λx y hy=>by simp[V.cells]at hy;subst hy;exact .int _ _) (λ_=>rfl) (by simp[Zgc]);exact Rd.msl (off:=0) (n:=3) (l:=[n.a,n.b,n.c]) (f:=V.int .i64) (f':=V.int .i64) (g:=g61) (fz:=0) (c:=.new) zp (λ_=>rfl) (λx y hy=>by simp[V.cells]at hy;subst hy;exact .int _ _) (λ_=>rfl) zS;refine(Zvz G hG _ _ (.mk false (Zgc (opn.drop kk))) (.mk false [n.a,n.b,n.c]) (by simp[Zgc,Sl.l])).mono ?_;rintro _ _ rfl;refine⟨.bool _,?_⟩;refine Zs ?_
  cases heq:(Zgc (opn.drop kk)==[n.a,n.b,n.c])with
  |false=>
   have heq2:Zgc (opn.drop kk)≠[n.a,n.b,n.c]:=zu heq;rw[if_pos heq2]at hst;rw[hst]at hR;refine Zm rfl (λh12=>?_) (λh12=>?_);refine Z ?_;rw[hnone hR];cases h12
  |true=>
  have heq2:¬ Zgc (opn.drop kk)≠[n.a,n.b,n.c]:=zu heq;rw[if_neg heq2]at hst;rw[hst]at hR;refine Z0 ?_;have hdb:=Zjaa (l:=opn.drop kk) (k:=k) zo λy hy=>hdp y (List.mem_of_mem_drop hy);generalize Zfd (opn.drop kk)=dd at hR hdb⊢;have hwd:IntKind.i64.wrap (dd+1)=dd+1:=w64 zo zo;have hne2:opn.take kk++[((k:Int),dd+1)]≠[]:=zS
  have hlen2:(opn.take kk++[((k:Int),dd+1)]).length=kk+1:=by rw[List.length_append,List.length_take];simp;omega
  have hdp2:∀ y∈opn.take kk++[((k:Int),dd+1)],(0:Int)<=y.2/\y.2<=(k+1:Nat):=by
   intro y hy
   rcases List.mem_append.1 hy with h|h
   have:=hdp y (List.mem_of_mem_take h);omega
   rw[List.mem_singleton.1 h];show 0<=dd+1/\dd+1<=_;omega
  by_cases hne:opn=[]
  subst hne;have hk0:kk=0:=zu hkk;subst hk0;refine AW.region zk ?_;simp -implicitDefEqProofs only[go_sem,seval,Znc,Z1c,and_self,hwd];intro g71;refine Zhb (f:=Zyf) (l:=([]:List (Int×Int))) (l2:=[((k:Int),dd+1)]) (g:=gx) Z2i rfl rfl rfl rfl (Z9 zo zS) λg2=>?_;refine Zs ?_;refine Z1 ?_;refine hL2 _ ⟨hk1,(g2,[((k:Int),dd+1)]),⟨hR,?_,hdp2⟩,Weak.st zw zp⟩
  show 1<=k+1
  omega;have hkle:kk<=opn.length:=zo;refine AW.region zk ?_;simp -implicitDefEqProofs only[go_sem,seval,Z2a 72 gx 2 hne,Nat.zero_le,hkle,and_self,hwd,Zfb gx Zyf hne];intro g71;refine⟨Z9 zo zo,by rw[Zjb (m:=2) Z2i];omega,λg2=>?_⟩;refine Z1 ?_;refine hL2 _ ⟨hk1,(g2,opn.take kk++[((k:Int),dd+1)]),⟨hR,?_,hdp2⟩,Weak.st (by refine Zs ?_;exact⟨by rw[Z2a _ _ _ hne2,hlen2],congrArg _ (w64 zo zo)⟩) (by refine Zs ?_;rw[Zfb _ _ hne2,List.map_append,Zee,<- Z6ga]<;>rfl)⟩
  show(opn.take kk++[_]).length<=k+1
  rw[hlen2];omega
 .have hk1:k=s.l.length:=by simp at h4;omega
  refine Z0 ?_;rw[hk1,List.drop_length,Zfk]at hR;rw[hR]at hD;refine Z6 ?_
  match opn,hD with
  |[],hD=>
   refine Z1f @Znc ?_;refine Zm rfl (λh7=>?_) (λh7=>?_);refine Z ?_;rw[hD];cases h7
  |[x],hD=>
   have hne:[x]≠([]:List (Int×Int)):=zS;refine Z1 ?_;refine Z0 ?_;have hfx:flat ([x].map Zyf)=[.int .i64 x.1,.int .i64 x.2]:=rfl;refine Zne zk ?_;simp -implicitDefEqProofs only[go_sem,seval,Z2a 72 gx 2 hne,Zfb gx Zyf hne,hfx];refine Z ?_;rw[hD]
  |x::y::r,hD=>
   have e1:(((x::y::r).length:Int) != 1)=true:=zO;refine Z1f e1 ?_;refine Zm rfl (λh7=>?_) (λh7=>?_);refine Z ?_;rw[hD];cases h7
def Zrf(l:List XN):Int:=if Zod l=0 then 2 else if Zod l>64 then 3 else 0
theorem Zri(G:Nat->V)(hE:GExp G)(c:Col)(s:Sl XN)(hs:s.l.length<1000000)(hnm:∀ n∈s.l,n.name.length<100000):
  Spec Tryz.prog G 261 [.agg [Za c 6 Zkb s]] Zk (λv _=>v=.int .i64 (Zrf s.l)):=by
 have hG:=hE.ok;refine Zo 0 12 [.tmp 2] Tryz.func261 λX=>?_
 have hC:Zrf s.l=if Zod s.l=0 then 2 else if Zod s.l>64 then 3 else 0:=rfl
 generalize Zrf s.l=res at hC⊢;refine Z1 ?_;intro g1;refine Z1 ?_;refine Zcf @Zcb hG ?_ (s:=(Z1m G hE c.ent s hs hnm));refine Z1 ?_;refine Zm rfl (λh6=>?_) (λh6=>?_);have h6:Zod s.l=0:=zu h6;rw[if_pos h6]at hC;refine Z ?_;rw[hC];have h6:¬ Zod s.l=0:=zu h6;rw[if_neg h6]at hC;refine Z1 ?_;refine Zm rfl (λh7=>?_) (λh7=>?_);have h7:Zod s.l>64:=zu h7;rw[if_pos h7]at hC;refine Z ?_;rw[hC];have h7:¬ Zod s.l>64:=zu h7;rw[if_neg h7]at hC;refine Z ?_;rw[hC]
end Go.Hs
end

section
namespace Go.Hs
def NmQ(Q:List UInt8->Prop)(r:RS):Prop:=∀ n∈r.nodes,Q n.name
def NmI(Q:List UInt8->Prop)(inner:Inner):Prop:=∀ n r,NmQ Q r->NmQ Q (inner n r).2
theorem NmQ.put{Q:List UInt8->Prop}{r:RS}{n:XN}(h:NmQ Q r)(hn:Q n.name):NmQ Q (r.put n):=by
 intro m hm
 rcases List.mem_append.1 hm with h1|h1
 exact h m h1;rw[List.mem_singleton.1 h1];exact hn
theorem Z8b{Q:List UInt8->Prop}{x:Bool×RS}{k:RS->Bool×RS}(h:NmQ Q x.2)(hk:∀ r,NmQ Q r->NmQ Q (k r).2):NmQ Q (andThen x k).2:=by
 obtain⟨b,r⟩:=x;cases b;exact h;exact hk r h
theorem Zzo{Q:List UInt8->Prop}(l:List Tk)(w:List UInt8){r:RS}(h:NmQ Q r):NmQ Q (Z0l l w r).2:=by
 unfold Z0l;split<;>exact h
theorem Zb9{Q:List UInt8->Prop}(h0:Q [])(t:List UInt8){r:RS}(h:NmQ Q r):NmQ Q (Zkg r t).2:=by
 unfold Zkg;split;exact h;exact NmQ.put (n:=⟨1,_,[],-1,-1,-1⟩) h h0
theorem Z1v{Q:List UInt8->Prop}{l:List Tk}{inner:Inner}(h0:Q [])(hi:NmI Q inner){r:RS}(h:NmQ Q r):NmQ Q (Zxc l inner r).2:=by
 unfold Zxc;refine Z8b (Zzo _ _ h) λr1 h1=>Z8b (hi _ _ h1) λa h2=>Z8b (Zzo _ _ h2) λr2 h3=>Z8b (hi _ _ h3) λb h4=>Z8b (Zzo _ _ h4) λr3 h5=>Z8b (hi _ _ h5) λc h6=>Z8b (Zzo _ _ h6) λr4 h7=>?_;exact NmQ.put h7 h0
theorem Zoia{Q:List UInt8->Prop}{l:List Tk}{inner:Inner}(h0:Q [])(hq:∀ i,(Zma l i).kind=2->Q (Zma l i).text)(hi:NmI Q inner){r:RS}(h:NmQ Q r):NmQ Q (Zuh l inner r).2:=by
 unfold Zuh
 split
 exact Zb9 h0 _ h
 split
 rename_i hk;exact NmQ.put (n:=⟨2,0,(Zma l r.i).text,-1,-1,-1⟩) h (hq _ hk)
 split
 exact h
 split
 exact Z8b (hi _ _ h) λa ha=>NmQ.put ha h0
 split
 exact Z8b (hi _ _ h) λa ha=>Zzo _ _ ha
 split
 exact Z1v h0 hi h
 split
 exact NmQ.put (n:=⟨_,0,[],-1,-1,-1⟩) h h0;exact h
theorem Ze6{Q:List UInt8->Prop}{l:List Tk}{inner:Inner}(h0:Q [])(hi:NmI Q inner)(n:Int):∀ (m:Nat) (r:RS),NmQ Q r->NmQ Q (Zco l inner n m r).2
 |0,r,h=>h
 |m+1,r,h=>by
  rw[Zco]
  split
  exact h
  split
  exact h;exact Z8b (hi _ r.adv h) λa ha=>Ze6 h0 hi n m (a.put _) (NmQ.put ha h0)
theorem Z2o{Q:List UInt8->Prop}(l:List Tk)(h0:Q [])(hq:∀ i,(Zma l i).kind=2->Q (Zma l i).text):∀ f,NmI Q (Zgb l f)
 |0=>λ_ _ h=>h
 |f+1=>λn r h=>by
  rw[Zgb];exact Z8b (Zoia h0 hq (Z2o l h0 hq f) h) λa ha=>Ze6 h0 (Z2o l h0 hq f) n _ a ha
end Go.Hs
end

section
namespace Go.Hs
open Go.Proofs
set_option maxRecDepth 10000
theorem Zvja{NO:Nat}{tl:List V}{G:Nat->V}(hG:GOk G){f:FuncId}{args args':List V}{sl:Sl Tk}{g:Nat}{r r':RS}{v:V}(h:RdS NO tl G f args' sl g r v r'){H:Heap}{K:V->Heap->Prop}
  (hen:Z2 Tryz.prog f=true) (htl:∀ F:Col->Col,tl.map (V.recol F)=tl) (hargs:args.map (V.recol Col.ent)=args') (hv:v.recol Col.bk=v) (hr:r.nodes=[])
  (cs:List V) (h8:H 8=.cells .new g 0 cs) (hcs:Zja Col.ent cs=(Za .any 3 Zsc sl::.int .i64 r.i::.nils::.int .i64 r.e::tl)) (hN:H NO=.dead)
  (hk:∀ gx',K v (Zfa H [(8,.cells .new g 0 (Za .any 3 Zsc sl::.int .i64 r'.i::grown NO gx' 6 r'.nodes::.int .i64 r'.e::tl)),(NO,Zca gx' Zkb r'.nodes)])):
  CallA Tryz.prog G f (.ptr 8 g 0::args) H K:=by
 refine Z64 hG [(8,rdO NO tl sl g 0 r),(NO,ndO 0 r.nodes)] hen ?_ ?_ ?_;intro p hp;simp only[List.mem_cons,List.not_mem_nil,or_false]at hp
 rcases hp with rfl|rfl
 simp only[h8,AObj.toAny,hcs,Zzd,hr];rfl;simp only[hN,AObj.toAny,hr];rfl;intro p hp c g' fz cs' ho;simp only[List.mem_cons,List.not_mem_nil,or_false]at hp
 rcases hp with rfl|rfl
 simp only[h8,AObj.cells.injEq]at ho;exact ho.1.symm;simp only[hN]at ho;cases ho
 .have ha:(V.ptr 8 g 0::args).map (V.recol Col.ent)=.ptr 8 g 0::args':=by rw[List.map_cons,Zvj,hargs]
  rw[ha];refine(h 0).mono ?_;rintro _ H' ⟨rfl,gx',q8,qN⟩
  have b8:(rdO NO tl sl g gx' r').backNew=.cells .new g 0 (Za .any 3 Zsc sl::.int .i64 r'.i::grown NO gx' 6 r'.nodes::.int .i64 r'.e::tl):=by
   simp only[Zzd,AObj.backNew,Z7,List.map_cons,Zmc,Zwa,Zxd,htl];rfl
  have bN:(ndO gx' r'.nodes).backNew=Zca gx' Zkb r'.nodes:=by
   unfold ndO
   cases hn:r'.nodes with
   |nil=>rfl
   |cons x t=>
    rw[Z9j _ _ _ zS,Zfb _ _ zS];simp only[AObj.backNew,Z7];rw[<- Zye,List.map_map];have he:(x::t).map (V.recol Col.bk∘Zkb)=(x::t).map Zkb:=List.map_congr_left λy _=>Zrj _ y
    first|done|rw[he]
  simp only[List.map_cons,List.map_nil,q8,qN,b8,bN,hv];exact hk gx'
def encXs(c:Col)(l:List XN):V:=Za c 6 Zkb (Zb l)
def encFr(c:Col)(p:List XN×Int×Int):V:=.tuple [.agg [encXs c p.1],.int .i64 p.2.1,.int .i64 p.2.2]
theorem Z6i{l:List Tk}(hT:TkOk l):∀ n∈(Zgb l (l.length+1) 1 ⟨0,[],0⟩).2.nodes,n.name.length<100000:=
 Z2o (Q:=λs=>s.length<100000) l (Nat.zero_lt_succ _) (λi _=>Z9n hT i) _ _ _ (λn hn=>by cases hn)
theorem Zjq(G:Nat->V)(hE:GExp G)(c:Col)(sl:Sl Tk)(hT:TkOk sl.l):Spec Tryz.prog G 244 [Za c 3 Zsc sl] Zk (λv _=>v=encFr .new (Zwb sl.l)):=by
 have hG:=hE.ok;have hTl:=hT.len;refine Zo 0 44 [.cell 2 199,.tmp 3,.tmp 4] Tryz.func244 λX=>?_
 have hP:Zwb sl.l=if(Zgb sl.l (sl.l.length+1) 1 ⟨0,[],0⟩).1=false then(([]:List XN),((Zgb sl.l (sl.l.length+1) 1 ⟨0,[],0⟩).2.i:Int),(Zgb sl.l (sl.l.length+1) 1 ⟨0,[],0⟩).2.e)
  else if Zod (Zgb sl.l (sl.l.length+1) 1 ⟨0,[],0⟩).2.nodes>64 then([],0,3)else((Zgb sl.l (sl.l.length+1) 1 ⟨0,[],0⟩).2.nodes,((Zgb sl.l (sl.l.length+1) 1 ⟨0,[],0⟩).2.i:Int),(0:Int)):=rfl
 have hr0:Zi7 sl.l ⟨0,[],0⟩:=⟨Nat.zero_le _,Nat.le_refl _⟩;have hcl:=λg=>Zaz G hE sl hT g (sl.l.length+1) 1 ⟨0,[],0⟩ zd zd (Nat.lt_succ_self _) hr0;have hnm2:=Z6i hT;have hok:=(Z5d sl.l (sl.l.length+1) 1 ⟨0,[],0⟩);generalize Zwb sl.l=res at hP⊢;generalize Zgb sl.l (sl.l.length+1) 1 ⟨0,[],0⟩=y at hP hcl hok hnm2;obtain⟨b,r⟩:=y;simp only at hP hcl hok hnm2;refine Z1 ?_;intro g2;refine Z1 ?_;intro g8;refine Z6 ?_;refine AW.block ?_;refine AW.weak (Zw (λ_=>false) (l:=[(5,.ptr 8 g8 0),(2,.ptr 2 g2 0)]) (m:=[(2,.cells .new g2 0 [.nils]),(8,.cells .new g8 0 [Za .any 3 Zsc sl,.int .i64 0,.nils,.int .i64 0,.func (.func 259) [] []])]) ?_ ?_) ?_;refine Zs ?_;exact⟨Fz.same _,Fz.same _⟩;simp only[Zv,Zy,and_true];exact⟨FzO.keep rfl zp,FzO.of (c:=.new) (fz:=0) (cs:=[Za c 3 Zsc sl,.int .i64 0,.nils,.int .i64 0,.func (.func 259) [] []]) rfl zp ⟨Fz.any (Zmc _ _ _),Fz.same _,Fz.same _,Fz.same _,Fz.same _,trivial⟩⟩;refine Z1 ?_;refine Zvja hG (hcl g8) zk (λF=>rfl) rfl rfl rfl _ zp (by simp only[Z7,List.map_cons,List.map_nil,Zmc];rfl) zp λgx=>?_;refine Zu ?_
 cases b with
 |false=>
  refine Z2f rfl ?_;refine AW.weak (Zw (λo=>o==8) (l:=[(5,.view .new (.agg [Za .any 3 Zsc sl,.int .i64 r.i,grown 1031 gx 6 r.nodes,.int .i64 r.e,.func (.func 259) [] []])),(2,.ptr 2 g2 0)]) (m:=[(2,.cells .new g2 0 [.nils])]) ?_ ?_) ?_;refine Zs ?_;exact⟨Fz.ptr (v:=.agg [Za .any 3 Zsc sl,.int .i64 r.i,grown 1031 gx 6 r.nodes,.int .i64 r.e,.func (.func 259) [] []]) (c:=.new) (fz:=0) rfl zp,Fz.same _⟩;simp only[Zv,Zy,and_true];exact FzO.keep rfl zp;refine Z6 ?_;refine Zp ⟨λ_=>.top,λi=>if i=4 then .lend else if i=8 then .lend else .pure⟩ zk hG zk zk ?_;refine Zs ?_;refine Z ?_
  rw[hP]<;>rfl
 |true=>
 refine Zad rfl ?_;refine AW.weak (Zw (λo=>o==1031) (l:=[(5,.ptr 8 g8 0),(2,.ptr 2 g2 0)]) (m:=[(2,.cells .new g2 0 [.nils]),(8,.cells .new g8 0 [Za .any 3 Zsc sl,.int .i64 r.i,encXs .new r.nodes,.int .i64 r.e,.func (.func 259) [] []])]) ?_ ?_) ?_;refine Zs ?_;exact⟨Fz.same _,Fz.same _⟩;simp only[Zv,Zy,and_true];exact⟨FzO.keep rfl zp,FzO.of (c:=.new) (fz:=0) (cs:=[Za .any 3 Zsc sl,.int .i64 r.i,grown 1031 gx 6 r.nodes,.int .i64 r.e,.func (.func 259) [] []]) rfl zp ⟨Fz.same _,Fz.same _,Zkc rfl zp Z1i,Fz.same _,Fz.same _,trivial⟩⟩
 have hrl:r.nodes.length<1000000:=by have:=(hok.ok hr0);have h1:=this.1;have h2:=this.2;omega
 rw[if_neg zS]at hP;refine Z1f @encXs.eq_1 ?_;refine Zcf @Zcb hG ?_ (s:=(Z1m G hE Col.new.ent (Zb r.nodes) (by rw[Zl];exact hrl) (by rw[Zl];exact hnm2)));refine Zm rfl (λh26=>?_) (λh26=>?_);have h26:Zod r.nodes>64:=zu h26;rw[if_pos h26]at hP;refine Z ?_
 rw[hP]<;>rfl
 have h26:¬ Zod r.nodes>64:=zu h26;rw[if_neg h26]at hP;refine Z0 ?_;refine AW.weak (Zw (λo=>o==8) (l:=[(5,.view .new (.agg [Za .any 3 Zsc sl,.int .i64 r.i,encXs .new r.nodes,.int .i64 r.e,.func (.func 259) [] []])),(2,.ptr 2 g2 0)]) (m:=[(2,.cells .new g2 0 [.nils])]) ?_ ?_) ?_;refine Zs ?_;exact⟨Fz.ptr (v:=.agg [Za .any 3 Zsc sl,.int .i64 r.i,encXs .new r.nodes,.int .i64 r.e,.func (.func 259) [] []]) (c:=.new) (fz:=0) rfl zp,Fz.same _⟩;simp only[Zv,Zy,and_true];exact FzO.keep rfl zp;refine Z6 ?_;refine Zp ⟨λ_=>.top,λi=>if i=3 then .lend else if i=8 then .lend else .pure⟩ zk hG zk zk ?_;refine Zsf @encXs.eq_1 ?_;refine Z ?_
 rw[hP]<;>rfl
theorem Zmq:∀ (f:Nat) (s:List UInt8) (i:Nat) (acc:List Tk),(∀ t∈acc,t.text.length<=s.length)->∀ t∈(Zoe f s i acc).1,t.text.length<=s.length
 |0,s,i,acc,h=>by rw[Zoe];exact h
 |f+1,s,i,acc,h=>by
  rw[Zoe]
  split
  split
  intro t ht;cases ht;refine Zmq f s _ _ ?_;intro t ht
  rcases List.mem_append.1 ht with h1|h1
  exact h t h1;rw[List.mem_singleton.1 h1]
  show((s.drop i).take _).length<=s.length
  rw[List.length_take,List.length_drop];omega;exact h
theorem Z1r{s:List UInt8}(hs:s.length<100000):TkOk (Zra s).1:=by
 unfold Zra
 split
 exact⟨Nat.zero_lt_succ _,λt ht=>by cases ht⟩;refine⟨?_,?_⟩;have:=Zfu (s.length+1) s (blk s) [];have h0:([]:List Tk).length=0:=rfl;omega;intro t ht;have:=Zmq (s.length+1) s (blk s) [] (λt ht=>by cases ht) t ht;omega
theorem Z9y(G:Nat->V)(hE:GExp G)(s:List UInt8)(hs:s.length<100000):Spec Tryz.prog G 213 [.str s] Zk (λv _=>v=encFr .new (Zcg s)):=by
 have hG:=hE.ok;refine Zo 0 60 [.cell 2 199,.tmp 3,.tmp 4] Tryz.func213 λX=>?_
 have hP:Zcg s=if(Zra s).2.2≠0 then(([]:List XN),(Zra s).2.1,(Zra s).2.2)
  else if(Zwb (Zra s).1).2.2=3 then([],0,3)
  else if(Zwb (Zra s).1).2.2=0/\(Zwb (Zra s).1).2.1=((Zra s).1.length:Nat)then((Zwb (Zra s).1).1,0,0)
  else([],if(Zwb (Zra s).1).2.1=((Zra s).1.length:Nat)then(s.length:Int)else((Zra s).1.getD (Zwb (Zra s).1).2.1.toNat ⟨0,[],0⟩).pos,if(Zwb (Zra s).1).2.2=0 then 80 else(Zwb (Zra s).1).2.2):=rfl
 generalize Zcg s=res at hP⊢;have hT:=Z1r hs;have hl:=Zke G hE s hs;have hfr:=λc=>Zjq G hE c (Zb (Zra s).1) (by rw[Zl];exact hT);simp only[Zl]at hfr;have hb:=Zmh (l:=(Zra s).1);generalize Zra s=t at hP hT hl hfr hb;generalize Zwb t.1=p at hP hfr hb;obtain⟨l,at0,e0⟩:=t;obtain⟨ns,i,e⟩:=p;simp only at hP hT hfr hb;refine Z1 ?_;intro g2;refine Z1 ?_;refine Zn hG ?_ (s:=hl);refine Zsf (zi @encTok.eq_1 (zi @encTks.eq_1 @Zmc)) ?_;refine Z1 ?_
 by_cases he0:e0=0
 rotate_left;have q1:(e0 != 0)=true:=zu he0;rw[if_pos he0]at hP;refine Zm rfl (λh17=>?_) (λh17=>?_);refine Z ?_
 rw[hP]<;>rfl
 rw[q1]at h17;cases h17;have q1:(e0 != 0)=false:=zu he0;rw[if_neg (zu he0)]at hP;refine Zm rfl (λh17=>?_) (λh17=>?_);rw[q1]at h17;cases h17;refine Z1 ?_;refine Znf @Zmc hG ?_ (s:=(hfr _));refine Zsf (zi @encFr.eq_1 (zi @encXs.eq_1 @Zcb)) ?_;intro g8;refine Z1 ?_
 by_cases he3:e=3
 have q3:(e==3)=true:=zu he3;rw[if_pos he3]at hP;refine Zm rfl (λh27=>?_) (λh27=>?_);refine Z ?_
 rw[hP,he3]<;>rfl
 rw[q3]at h27;cases h27;have q3:(e==3)=false:=zu he3;rw[if_neg he3]at hP;refine Zm rfl (λh27=>?_) (λh27=>?_);rw[q3]at h27;cases h27
 by_cases he:e=0
 have q4:(e==0)=true:=zu he
 by_cases hi:i=(l.length:Nat)
 have q5:(i==((l.length:Nat):Int))=true:=zu hi;rw[if_pos ⟨he,hi⟩]at hP;refine Z1f (zi q4 q5) ?_;refine Zm rfl (λh32=>?_) (λh32=>?_);refine Z ?_
 rw[hP]<;>rfl
 cases h32;have q5:(i==((l.length:Nat):Int))=false:=zu hi;rw[if_neg (λh=>hi h.2),if_neg hi,if_pos he]at hP;obtain⟨m,rfl⟩:∃ m:Nat,i=m:=⟨i.toNat,zo⟩;have hml:m<l.length:=zo;obtain⟨tk,htk⟩:∃ tk,l[m]?=some tk:=⟨_,List.getElem?_eq_getElem hml⟩
 have hgd:(l.getD ((m:Nat):Int).toNat ⟨0,[],0⟩)=tk:=by rw[Int.toNat_natCast,List.getD_eq_getElem?_getD,htk]<;>rfl
 rw[hgd]at hP;refine Z1f (zi q4 q5) ?_;refine Z1f q4 ?_;refine Z1 ?_;refine Z1f q5 ?_;refine Z0 ?_;refine Z6 ?_;refine Zp ⟨λ_=>.top,λi=>if i=5 then .lend else .pure⟩ zk hG zk zk ?_;refine Zsf (zi htk @Zed) ?_;refine Z ?_
 rw[hP]<;>rfl
 have q4:(e==0)=false:=zu he;rw[if_neg (λh=>he h.1),if_neg he]at hP;refine Z1f q4 ?_;refine Z1f q4 ?_;refine Z0 ?_;refine Z6 ?_
 by_cases hi:i=(l.length:Nat)
 have q5:(i==((l.length:Nat):Int))=true:=zu hi;rw[if_pos hi]at hP;refine Z1f q5 ?_;refine Zm rfl (λh48=>?_) (λh48=>?_);refine Z ?_
 rw[hP]<;>rfl
 cases h48;have q5:(i==((l.length:Nat):Int))=false:=zu hi;rw[if_neg hi]at hP;obtain⟨m,rfl⟩:∃ m:Nat,i=m:=⟨i.toNat,zo⟩;have hml:m<l.length:=zo;obtain⟨tk,htk⟩:∃ tk,l[m]?=some tk:=⟨_,List.getElem?_eq_getElem hml⟩
 have hgd:(l.getD ((m:Nat):Int).toNat ⟨0,[],0⟩)=tk:=by rw[Int.toNat_natCast,List.getD_eq_getElem?_getD,htk]<;>rfl
 rw[hgd]at hP;refine Z1f q5 ?_;refine Z0 ?_;refine Z6 ?_;refine Zp ⟨λ_=>.top,λi=>if i=5 then .lend else .pure⟩ zk hG zk zk ?_;refine Zsf (zi htk @Zed) ?_;refine Z ?_
 rw[hP]<;>rfl
end Go.Hs
end

section
namespace Go.Hs
inductive Sub:X->X->Nat->Prop where
 |refl (x:X):Sub x x 0
 |un {op:Int} {a y:X} {b:Nat}:Sub a y b->Sub (.un op a) y b
 |bin1 {op:Int} {a c y:X} {b:Nat}:Sub a y b->Sub (.bin op a c) y b
 |bin2 {op:Int} {a c y:X} {b:Nat}:Sub c y b->Sub (.bin op a c) y (a.size+b)
 |ite1 {a c d y:X} {b:Nat}:Sub a y b->Sub (.ite a c d) y b
 |ite2 {a c d y:X} {b:Nat}:Sub c y b->Sub (.ite a c d) y (a.size+b)
 |ite3 {a c d y:X} {b:Nat}:Sub d y b->Sub (.ite a c d) y (a.size+c.size+b)
def Znq:X->List X
 |.leaf op num name=>[.leaf op num name]
 |.un op a=>Znq a++[.un op a]
 |.bin op a c=>Znq a++Znq c++[.bin op a c]
 |.ite a c d=>Znq a++Znq c++Znq d++[.ite a c d]
theorem Zzb:∀ x:X,(Znq x).length=x.size
 |.leaf .. => rfl
 |.un _ a=>by simp[Znq,X.size,Zzb a]
 |.bin _ a b=>by simp[Znq,X.size,Zzb a,Zzb b];omega
 |.ite a b c=>by simp[Znq,X.size,Zzb a,Zzb b,Zzb c];omega
theorem Sub.trans{x y z:X}{b c:Nat}(h:Sub x y b)(h2:Sub y z c):Sub x z (b+c):=by
 induction h with
 |refl=>simpa using h2
 |un _ ih=>exact .un (ih h2)
 |bin1 _ ih=>exact .bin1 (ih h2)
 |bin2 _ ih=>rw[Nat.add_assoc];exact .bin2 (ih h2)
 |ite1 _ ih=>exact .ite1 (ih h2)
 |ite2 _ ih=>rw[Nat.add_assoc];exact .ite2 (ih h2)
 |ite3 _ ih=>rw[Nat.add_assoc];exact .ite3 (ih h2)
theorem Sub.ok{x y:X}{b:Nat}(h:Sub x y b):x.ok=true->y.ok=true:=by
 induction h with
 |refl=>exact id
 |un _ ih=>intro h;simp[X.ok]at h;exact ih h.2
 |bin1 _ ih=>intro h;simp[X.ok]at h;exact ih h.1.2
 |bin2 _ ih=>intro h;simp[X.ok]at h;exact ih h.2
 |ite1 _ ih=>intro h;simp[X.ok]at h;exact ih h.1.1
 |ite2 _ ih=>intro h;simp[X.ok]at h;exact ih h.1.2
 |ite3 _ ih=>intro h;simp[X.ok]at h;exact ih h.2
theorem Sub.size{x y:X}{b:Nat}(h:Sub x y b):b+y.size<=x.size:=by
 induction h with
 |refl=>simp
 |un _ ih=>simp only[X.size];omega
 |bin1 _ ih=>simp only[X.size];omega
 |bin2 _ ih=>simp only[X.size];omega
 |ite1 _ ih=>simp only[X.size];omega
 |ite2 _ ih=>simp only[X.size];omega
 |ite3 _ ih=>simp only[X.size];omega
theorem Sub.depth{x y:X}{b:Nat}(h:Sub x y b):y.depth<=x.depth:=by
 induction h with
 |refl=>simp
 |un _ ih=>simp only[X.depth];omega
 |bin1 _ ih=>simp only[X.depth];omega
 |bin2 _ ih=>simp only[X.depth];omega
 |ite1 _ ih=>simp only[X.depth];omega
 |ite2 _ ih=>simp only[X.depth];omega
 |ite3 _ ih=>simp only[X.depth];omega
theorem Sub.at{x y:X}{b:Nat}(h:Sub x y b):∀ {l:List XN} {k:Nat},At l x k->At l y (k+b):=by
 induction h with
 |refl=>exact id
 |un _ ih=>intro l k h;exact ih h.un
 |bin1 _ ih=>intro l k h;exact ih h.bin.1
 |bin2 _ ih=>intro l k h;rw[<- Nat.add_assoc];exact ih h.bin.2
 |ite1 _ ih=>intro l k h;exact ih h.ite.1
 |ite2 _ ih=>intro l k h;rw[<- Nat.add_assoc];exact ih h.ite.2.1
 |ite3 _ ih=>intro l k h;rw[<- Nat.add_assoc,<- Nat.add_assoc];exact ih h.ite.2.2
theorem Znka(x:X):(Znq x)[x.size-1]?=some x:=by
 have:∃ l,Znq x=l++[x]:=by
  cases x with
  |leaf=>exact⟨[],rfl⟩
  |un=>exact⟨_,rfl⟩
  |bin=>exact⟨_,rfl⟩
  |ite=>exact⟨_,rfl⟩
 obtain⟨l,h⟩:=this;have hl:=Zzb x;rw[h,List.length_append,List.length_singleton]at hl;rw[h,List.getElem?_append_right (by omega),show x.size-1-l.length=0 by omega];rfl
theorem Sub.get{x y:X}{b:Nat}(h:Sub x y b):(Znq x)[b+y.size-1]?=some y:=by
 have hy:=y.size_pos
 induction h with
 |refl x=>rw[Nat.zero_add];exact Znka x
 |@un op a y b h ih=>
  have:=h.size;have hl:=Zzb a;rw[Znq,List.getElem?_append_left (by omega)];exact ih hy
 |@bin1 op a c y b h ih=>
  have:=h.size;have hl:=Zzb a;rw[Znq,List.append_assoc,List.getElem?_append_left (by omega)];exact ih hy
 |@bin2 op a c y b h ih=>
  have:=h.size;have hl:=Zzb a;have hl2:=Zzb c;rw[Znq,List.append_assoc,List.getElem?_append_right (by omega),List.getElem?_append_left (by omega),<- ih hy]
  congr 1;omega
 |@ite1 a c d y b h ih=>
  have:=h.size;have hl:=Zzb a;rw[Znq,List.append_assoc,List.append_assoc,List.getElem?_append_left (by omega)];exact ih hy
 |@ite2 a c d y b h ih=>
  have:=h.size;have hl:=Zzb a;have hl2:=Zzb c;rw[Znq,List.append_assoc,List.append_assoc,List.getElem?_append_right (by omega),List.getElem?_append_left (by omega),<- ih hy]
  congr 1;omega
 |@ite3 a c d y b h ih=>
  have:=h.size;have hl:=Zzb a;have hl2:=Zzb c;have hl3:=Zzb d;rw[Znq,List.append_assoc,List.append_assoc,List.getElem?_append_right (by omega),List.getElem?_append_right (by omega),List.getElem?_append_left (by omega),<- ih hy]
  congr 1;omega
theorem Zti:∀ (x:X) (i:Nat),i<x.size->∃ y b,Sub x y b/\b+y.size=i+1
 |.leaf op num name,i,h=>⟨_,0,.refl _,by simp only[X.size]at h⊢;omega⟩
 |.un op a,i,h=>by
  by_cases h1:i<a.size
  obtain⟨y,b,h2,h3⟩:=Zti a i h1;exact⟨y,b,.un h2,h3⟩;exact⟨_,0,.refl _,by simp only[X.size]at h⊢;omega⟩
 |.bin op a c,i,h=>by
  by_cases h1:i<a.size
  obtain⟨y,b,h2,h3⟩:=Zti a i h1;exact⟨y,b,.bin1 h2,h3⟩
  by_cases h1':i-a.size<c.size
  obtain⟨y,b,h2,h3⟩:=Zti c (i-a.size) h1';exact⟨y,_,.bin2 h2,by omega⟩;exact⟨_,0,.refl _,by simp only[X.size]at h⊢;omega⟩
 |.ite a c d,i,h=>by
  by_cases h1:i<a.size
  obtain⟨y,b,h2,h3⟩:=Zti a i h1;exact⟨y,b,.ite1 h2,h3⟩
  by_cases h1':i-a.size<c.size
  obtain⟨y,b,h2,h3⟩:=Zti c (i-a.size) h1';exact⟨y,_,.ite2 h2,by omega⟩
  by_cases h1'':i-a.size-c.size<d.size
  obtain⟨y,b,h2,h3⟩:=Zti d (i-a.size-c.size) h1'';exact⟨y,_,.ite3 h2,by omega⟩;exact⟨_,0,.refl _,by simp only[X.size]at h⊢;omega⟩
theorem Sub.top{x y:X}{b:Nat}(h:Sub x y b):(x.row 0)[b+y.size-1]?=some (y.top b):=by
 have:=(h.at (Z6na x)).get;rw[Nat.zero_add]at this;exact this
theorem sub_at(x:X)(i:Nat)(h:i<x.size):∃ y b,Sub x y b/\b+y.size=i+1/\(Znq x)[i]?=some y/\(x.row 0)[i]?=some (y.top b):=by
 obtain⟨y,b,h1,h2⟩:=Zti x i h
 have e:i=b+y.size-1:=by omega
 exact⟨y,b,h1,h2,e ▸ h1.get,e ▸ h1.top⟩
def kd(op:Int)(named:Bool)(a b c:Int):Int:=
 if op=1\/op=2/\named=true then 1
 else if op=3\/op=4 then 2
 else if op=5/\a=1\/7<=op/\op<=11/\a=1/\b=1 then 1
 else if 12<=op/\op<=15/\a=1/\b=1\/(op=16\/op=17)/\a=b/\a≠0 then 2
 else if op=6/\a=2\/18<=op/\op<=21/\a=2/\b=2 then 2
 else if op=22/\a=2/\b=c then b else 0
theorem Zuma{op:Int}{nm:Bool}{a b c:Int}(hb:0<=b/\b<=2):0<=kd op nm a b c/\kd op nm a b c<=2:=by
 unfold kd
 repeat' split
 all_goals omega
def plc(ks:List Int)(i:Int):Int:=if i<0 then 0 else ks.getD i.toNat 0
def Zbq(names:List (List UInt8))(n:XN)(ks:List Int):Int:=kd n.op (names.contains n.name) (plc ks n.a) (plc ks n.b) (plc ks n.c)
def goN(names:List (List UInt8)):List XN->Int->List Int->List Int×Int×Int
 |[],_,acc=>(acc,0,0)
 |n::r,i,acc=>if Zbq names n acc=0 then([],i,90)else goN names r (i+1) (acc++[Zbq names n acc])
def PlOk(k:Nat)(n:XN):Prop:=Zxg n=true/\(0<Z5 n.op->0<=n.a/\n.a<k)/\(1<Z5 n.op->0<=n.b/\n.b<k)/\(2<Z5 n.op->0<=n.c/\n.c<k) /\
 (¬ 0<Z5 n.op->n.a = -1)/\(¬ 1<Z5 n.op->n.b = -1)/\(¬ 2<Z5 n.op->n.c = -1)
theorem Zqla{x y:X}{b i:Nat}(hx:x.ok=true)(h:Sub x y b)(hi:b+y.size=i+1):PlOk i (y.top b):=by
 have hy:=h.ok hx
 cases y with
 |leaf op num name=>
  simp only[X.ok,Bool.and_eq_true,decide_eq_true_eq]at hy
  have hp:Z5 op=0:=by unfold Z5;rw[if_pos hy.2]
  refine⟨hy.1,?_⟩;simp only[X.top,hp];exact⟨λh=>absurd h (by decide),λh=>absurd h (by decide),λh=>absurd h (by decide),λ_=>trivial,λ_=>trivial,λ_=>trivial⟩
 |un op a=>
  simp only[X.ok,Bool.and_eq_true,decide_eq_true_eq]at hy
  have hp:Z5 op=1:=by unfold Z5;rw[if_neg (by omega),if_pos (by omega)]
  have hs:=a.size_pos;simp only[X.size]at hi;refine⟨Zcz (by omega) _ _ _,?_⟩;simp only[X.top,hp];exact⟨λ_=>by omega,λh=>absurd h (by decide),λh=>absurd h (by decide),λh=>absurd (by decide) h,λ_=>trivial,λ_=>trivial⟩
 |bin op a c=>
  simp only[X.ok,Bool.and_eq_true,decide_eq_true_eq]at hy
  have hp:Z5 op=2:=by unfold Z5;rw[if_neg (by omega),if_neg (by omega),if_pos (by omega)]
  have hs:=a.size_pos;have hs2:=c.size_pos;simp only[X.size]at hi;refine⟨Zcz (by omega) _ _ _,?_⟩;simp only[X.top,hp];exact⟨λ_=>by omega,λ_=>by omega,λh=>absurd h (by decide),λh=>absurd (by decide) h,λh=>absurd (by decide) h,λ_=>trivial⟩
 |ite a c d=>
  have hp:Z5 22=3:=by decide
  have hs:=a.size_pos;have hs2:=c.size_pos;have hs3:=d.size_pos;simp only[X.size]at hi;refine⟨Zcz (by decide) _ _ _,?_⟩;simp only[X.top,hp];exact⟨λ_=>by omega,λ_=>by omega,λ_=>by omega,λh=>absurd (by decide) h,λh=>absurd (by decide) h,λh=>absurd (by decide) h⟩
theorem Zrla{l:List XN}(h:Zod l≠0){i:Nat}{n:XN}(hg:l[i]?=some n):PlOk i n:=by
 obtain⟨x,hx,rfl⟩:=Zhaa h
 have hi:i<x.size:=by rw[<- X.row_len x 0];exact(List.getElem?_eq_some_iff.1 hg).1
 obtain⟨y,b,h1,h2,h3,h4⟩:=sub_at x i hi;rw[h4]at hg;cases hg;exact Zqla hx h1 h2
end Go.Hs
end

section
namespace Go.Hs
open Go.Proofs
set_option maxHeartbeats 1000000
set_option maxRecDepth 10000
def ruleC:List V:=[0,0,0,0,0,0,0,1,0,0,0,1,0,0,0,2,0,0,0,2,1,0,0,1,2,0,0,2,1,1,0,1,1,1,0,1,1,1,0,1,1,1,0,1,1,1,0,1,1,1,0,2,1,1,0,2,1,1,0,2,1,1,0,2,3,3,0,2,3,3,0,2,2,2,0,2,2,2,0,2,2,2,0,2,2,2,0,2,2,3,3,3].map (V.int .u8)
def Zyz(op:Nat):Int:=if op<=4 then 0 else if op=5\/(7<=op/\op<=15)then 1 else if op=16\/op=17 then 3 else 2
def Zsea(op:Nat):Int:=if op<=6 then 0 else if op<=15 then 1 else if op<=17\/op=22 then 3 else 2
def Zwz(op:Nat):Int:=if op=22 then 3 else 0
def Z5ka(op:Nat):Int:=if op=0 then 0 else if op<=2 then 1 else if op=22 then 3 else if op=5\/(7<=op/\op<=11)then 1 else 2
theorem Zrea(op:Nat)(h:op<23):(ruleC.drop (op*4)).take 4=[.int .u8 (Zyz op),.int .u8 (Zsea op),.int .u8 (Zwz op),.int .u8 (Z5ka op)]:=by
 match op,h with
 |0,_=>rfl
 |1,_=>rfl
 |2,_=>rfl
 |3,_=>rfl
 |4,_=>rfl
 |5,_=>rfl
 |6,_=>rfl
 |7,_=>rfl
 |8,_=>rfl
 |9,_=>rfl
 |10,_=>rfl
 |11,_=>rfl
 |12,_=>rfl
 |13,_=>rfl
 |14,_=>rfl
 |15,_=>rfl
 |16,_=>rfl
 |17,_=>rfl
 |18,_=>rfl
 |19,_=>rfl
 |20,_=>rfl
 |21,_=>rfl
 |22,_=>rfl
 |n+23,h=>omega
theorem Ziz(G:Nat->V)(hG:GOk G):Spec Tryz.prog G 262 [] Zk (λv _=>v=.agg ruleC):=by
 refine Zo 0 39 [.cell 0 303] Tryz.func262 λX=>?_;refine Z1 ?_;intro g0;refine Z1 ?_;intro g1 g2;refine Z1 ?_;intro g3 g4;exact Zr
theorem Zfoa(G:Nat->V)(hG:GOk G)(c:Col)(t:List UInt8)(s:Sl (List UInt8))(hs:s.l.length<1000000):
  Spec Tryz.prog G 295 [.str t,Za c 1 V.str s] Zk (λv _=>v=.bool (s.l.contains t)):=by
 refine Zo 0 18 [.tmp 4] Tryz.func295 λX=>?_;refine Z1 ?_;refine Z1 ?_;refine AW.block ?_
 refine Zaa s.l.length (λk (_:Unit)=>st [(0,.str t),(1,Za c 1 V.str s),(5,.int .i64 k)] []) (λk _=>(s.l.take k).contains t=false) 0 () (Nat.zero_le _) rfl
  (Weak.st zp zp) ?_
 intro k _ hk hR L2 hL2;refine Z1 ?_;refine Zm rfl (λh4=>?_) (λh4=>?_);have hk1:k<s.l.length:=zu h4;have hg:=List.getElem?_eq_getElem hk1
 have htk:s.l.take (k+1)=s.l.take k++[s.l[k]]:=by rw[List.take_succ_eq_append_getElem hk1]
 have hmem:=List.getElem_mem hk1;generalize s.l[k]=x at hg htk hmem;refine Z1f hg ?_;refine Zm rfl (λh6=>?_) (λh6=>?_);have h6:x=t:=zu h6;refine Z ?_
 have:s.l.contains t=true:=by rw[<- h6];simpa using hmem
 rw[this];have h6:¬ x=t:=zu h6;refine Z1 ?_;refine hL2 _ ⟨hk1,(),?_,Weak.st zw zp⟩;rw[htk];simp only[List.contains_eq_mem,decide_eq_false_iff_not]at hR⊢;intro hm
 rcases List.mem_append.1 hm with h|h
 exact hR h;exact h6 ((List.mem_singleton.1 h).symm)
 have hk1:k=s.l.length:=by simp at h4;omega
 refine Z ?_;rw[hk1,List.take_length]at hR;rw[hR]
theorem Zou(G:Nat->V)(hG:GOk G)(c:Col)(t:List UInt8)(s:Sl (List UInt8))(hs:s.l.length<1000000):
  Spec Tryz.prog G 210 [Za c 1 V.str s,.str t] Zk (λv _=>∃ i:Int,v=.int .i64 i/\decide (i>=0)=s.l.contains t):=by
 refine Zo 0 19 [.tmp 4] Tryz.func210 λX=>?_;refine Z1 ?_;refine Z1 ?_;refine AW.block ?_
 refine Zaa s.l.length (λk (_:Unit)=>st [(0,Za c 1 V.str s),(1,.str t),(7,.int .i64 s.l.length),(8,.int .i64 k)] []) (λk _=>(s.l.take k).contains t=false) 0 () (Nat.zero_le _) rfl
  (Weak.st zp zp) ?_
 intro k _ hk hR L2 hL2;refine Z1 ?_;refine Z6 ?_;refine Zm rfl (λh4=>?_) (λh4=>?_);have hk1:k<s.l.length:=zu h4;have hg:=List.getElem?_eq_getElem hk1
 have htk:s.l.take (k+1)=s.l.take k++[s.l[k]]:=by rw[List.take_succ_eq_append_getElem hk1]
 have hmem:=List.getElem_mem hk1;generalize s.l[k]=x at hg htk hmem;refine Z1 ?_;refine Z1f hg ?_;refine Zm rfl (λh6=>?_) (λh6=>?_);have h6:t=x:=zu h6;refine Z ?_
 have:s.l.contains t=true:=by rw[h6];simpa using hmem
 rw[this];exact⟨_,rfl,by rw[decide_eq_true_iff];omega⟩;have h6:¬ t=x:=zu h6;refine Z1 ?_;refine hL2 _ ⟨hk1,(),?_,Weak.st zw zp⟩;rw[htk];simp only[List.contains_eq_mem,decide_eq_false_iff_not]at hR⊢;intro hm
 rcases List.mem_append.1 hm with h|h
 exact hR h;exact h6 (List.mem_singleton.1 h)
 have hk1:k=s.l.length:=by simp at h4;omega
 refine Z ?_;rw[hk1,List.take_length]at hR;rw[hR];exact⟨_,rfl,rfl⟩
theorem Z5c(G:Nat->V)(hG:GOk G)(c:Col)(t:List UInt8)(s:Sl (List UInt8))(hs:s.l.length<1000000):
  Spec Tryz.prog G 153 [Za c 1 V.str s,.str t] Zk (λv _=>v=.bool (s.l.contains t)):=by
 refine Zo 0 9 [.tmp 4] Tryz.func153 λX=>?_;refine Z1 ?_;refine Z1 ?_;refine CallA.pure hG zk ?_;refine Zs ?_;refine(Zou G hG _ t s hs).mono ?_;rintro _ _ ⟨i,rfl,hi⟩;refine Zs ?_;refine Z ?_;rw[hi]
theorem Zmka(G:Nat->V)(hG:GOk G)(c:Col)(s:Sl Int)(hs:s.l.length<1000000)(i:Int)(hi:i<0\/0<=i/\i<s.l.length):
  Spec Tryz.prog G 283 [.int .i64 i,.view .old (Za c 1 (V.int .u8) s)] Zk (λv _=>v=.int .u8 (plc s.l i)):=by
 refine Zo 0 10 [.tmp 3] Tryz.func283 λX=>?_
 have hP:plc s.l i=if i<0 then 0 else s.l.getD i.toNat 0:=rfl
 generalize plc s.l i=res at hP⊢;refine Z1 ?_;refine Z1 ?_;refine Zm rfl (λh2=>?_) (λh2=>?_);have h2:i<0:=zu h2;rw[if_pos h2]at hP;refine Z ?_;rw[hP];have h2:¬ i<0:=zu h2;rw[if_neg h2]at hP;obtain⟨m,rfl⟩:∃ m:Nat,i=m:=⟨i.toNat,zo⟩;have hm:m<s.l.length:=zo;have hg:=List.getElem?_eq_getElem hm
 have hgd:s.l.getD ((m:Nat):Int).toNat 0=s.l[m]:=by rw[Int.toNat_natCast,List.getD_eq_getElem?_getD,hg]<;>rfl
 rw[hgd]at hP;generalize s.l[m]=x at hg hP;refine Zf hg ?_;rw[hP]
structure MdB(m:MdM):Prop where
 nm:m.name.length<1000000000000000
 var:∀ p∈m.vars.l,p.1.length<1000000000000000
 ev:∀ s∈m.events.l,s.length<1000000000000000
 rg:∀ p∈m.regions.l,p.1.length<1000000000000000
 vt:∀ x∈m.verts.l,x.name.length<1000000000000000/\x.sub.length<1000000000000000/\x.defers.l.length<1000000
 wy:∀ t∈m.ways.l,t.name.length<1000000000000000/\t.triggers.l.length<1000000
 nv:m.vars.l.length<=600
 ne:m.events.l.length<=600
 nr:m.regions.l.length<=600
 nx:m.verts.l.length<=600
 nw:m.ways.l.length<=600
theorem Z0d(G:Nat->V)(hE:GExp G)(s:List UInt8)(hs:s.length<1000000000000000):Spec Tryz.prog G 156 [.str s] Zk (λv _=>v=.bool (Z5e s)):=by
 have hG:=hE.ok;refine Zo 0 10 [.tmp 2] Tryz.func156 λX=>?_;rw[Z5e]
 cases h:(s==[])with
 |true=>exact Zq h
 |false=>
  refine Zf h ?_;refine Zc hG ?_ (s:=Zmf G hE s hs);refine Z ?_;rw[Bool.false_or,show((isP s:Int)==2)=(isP s==2)from by rw[Bool.eq_iff_iff,beq_iff_eq,beq_iff_eq];omega]
theorem Zwi(G:Nat->V)(c d:Col)(m:MdM)(v:Int):Spec Tryz.prog G 157 [Z4 c d m,.int .i64 v] Zk (λw _=>w=.bool (m.p.stateB v)):=by
 refine Zo 0 23 [.tmp 4] Tryz.func157 λX=>?_;simp only[Zj];refine Z1 ?_;intro g2;rw[PM.stateB]
 by_cases h0:0<=v
 by_cases h1:v<m.p.vertices.length
 obtain⟨k,x,rfl,hk,hg,hx⟩:=MdM.at h0 h1;rw[hx,decide_eq_true h0,decide_eq_true h1,Bool.true_and,Bool.true_and];have q0:decide ((k:Int)>=0)=true:=zT;have q1:decide ((k:Int)<(m.verts.l.length:Int))=true:=zT;refine Zf (zi hg (zi hk (zi Zt (zi @Int.natCast_nonneg (zi @Int.ofNat_lt (zi q0 q1)))))) ?_;rfl;have q0:decide (v>=0)=true:=zT;have q1:decide (v<(m.verts.l.length:Int))=false:=decide_eq_false (by rw[<- m.nv];exact h1);rw[decide_eq_false h1,Bool.and_false,Bool.false_and];exact Zq (zi q0 q1);have q0:decide (v>=0)=false:=zF;rw[decide_eq_false h0,Bool.false_and,Bool.false_and];exact Zq q0
theorem Znha{ev l:List (List UInt8)}:evB ev l=true↔∀ i s,l[i]?=some s->ev.contains s=true/\(l.take i).contains s=false:=by
 rw[evB,List.all_eq_true]
 constructor
 intro h i s hs;have hi:i<l.length:=(List.getElem?_eq_some_iff.1 hs).1;have:=h i (List.mem_range.2 hi);rw[List.getD_eq_getElem?_getD,hs]at this;simpa using this;intro h i hi;have hi:=List.mem_range.1 hi;obtain⟨a,b⟩:=h i _ (List.getElem?_eq_getElem hi);rw[List.getD_eq_getElem?_getD,List.getElem?_eq_getElem hi]
 show(ev.contains l[i] && !(l.take i).contains l[i])=true
 rw[a,b]<;>rfl
theorem Zoq{α : Type}(s:Sl α)(k:Nat):(s.sub 0 k).l=s.l.take k:=by
 cases s with
 |nil=>simp[Sl.sub,Sl.l]
 |mk b l=>simp[Sl.sub,Sl.l]
theorem Zbh(G:Nat->V)(hG:GOk G)(c d c1:Col)(m:MdM)(l:Sl (List UInt8))(he:m.events.l.length<1000000)(hl:l.l.length<1000000):
  Spec Tryz.prog G 161 [Z4 c d m,Za c1 1 V.str l] Zk (λw _=>w=.bool (evB m.events.l l.l)):=by
 refine Zo 0 27 [.tmp 4] Tryz.func161 λX=>?_;simp only[Zj];refine Z ?_;intro g2;refine AW.weak (Zw (λo=>o==2) (l:=[(1,Za c1 1 V.str l),(2,.view .new (Z4 c d m)),(4,.bool false)]) (m:=[]) ?_ trivial) ?_;refine Zs ?_;exact⟨Fz.same _,Fz.ptr (v:=Z4 c d m) (c:=.new) (fz:=0) zp zp,Fz.same _⟩;simp only[Zj];refine Z ?_
 refine Zaa l.l.length (λk (_:Unit)=>st [(1,Za c1 1 V.str l),(2,.view .new (Z4 c d m)),(7,Za c1 1 V.str l),(8,.int .i64 l.l.length),(9,.int .i64 k)] [])
  (λk _=>∀ i s,i<k->l.l[i]?=some s->m.events.l.contains s=true/\(l.l.take i).contains s=false) 0 () (Nat.zero_le _) (λi s h=>absurd h (Nat.not_lt_zero _)) (Weak.st (zpf Zj) zp) ?_
 intro k _ hk hR L3 hL3
 by_cases hk1:k<l.l.length
 .have hlt:decide ((k:Int)<(l.l.length:Int))=true:=zT
  have hg:=List.getElem?_eq_getElem hk1;generalize l.l[k]=x at hg;have w1:IntKind.i64.wrap ((k:Int)+1)=(k:Int)+1:=w64 zo zo;refine Zf (zi hlt (zi hg Zj)) ?_;refine Zc hG ?_ (s:=Z5c G hG _ x m.events he)
  cases h1:m.events.l.contains x with
  |false=>
   refine Zs ?_;refine Z ?_
   have:evB m.events.l l.l=false:=by
    rw[Bool.eq_false_iff];intro h;have:=(Znha.1 h k x hg).1;rw[h1]at this;cases this
   rw[this]
  |true=>
   refine Zs ?_;refine Zsf (zi (Nat.zero_le k) (Nat.le_of_lt hk1)) ?_;have hSp:=Z5c G hG c1.ent x (l.sub 0 k) (by rw[Zoq];simp;omega);rw[Zoq]at hSp;refine Zc hG ?_ (s:=hSp)
   cases h2:(l.l.take k).contains x with
   |true=>
    refine Z ?_
    have:evB m.events.l l.l=false:=by
     rw[Bool.eq_false_iff];intro h;have:=(Znha.1 h k x hg).2;rw[h2]at this;cases this
    rw[this]
   |false=>
    refine Zf w1 ?_;refine hL3 _ ⟨hk1,(),λi s hi hs=>?_,Weak.st (zpf Zj) zp⟩
    by_cases h3:i=k
    subst h3;rw[hg]at hs;obtain rfl:=Option.some.inj hs;exact⟨h1,h2⟩;exact hR i s zo hs
 have hke:k=l.l.length:=zo;subst hke;have hlt:decide ((l.l.length:Int)<(l.l.length:Int))=false:=zS;refine Zf hlt ?_;rw[Znha.2 λi s hs=>hR i s (List.getElem?_eq_some_iff.1 hs).1 hs]
theorem Zm9(G:Nat->V)(hG:GOk G)(c d e:Col)(m:MdM)(x:VtM):Spec Tryz.prog G 160 [Z4 c d m,Z5a e x] Zk (λw _=>w=.bool (m.p.liesB x.p)):=by
 refine Zo 0 38 [.tmp 4] Tryz.func160 λX=>?_;simp only[Zj,Zt];refine Z ?_;intro g2 g3;rw[PM.liesB]
 cases h10:(x.kind==10)with
 |true=>
  have e1:x.kind=10:=zu h10;rw[if_pos (show x.p.kind=10\/x.p.kind=11 from .inl e1)]
  show AW _ _ _ (Zeg _ _ λw _=>w=.bool ((x.region == -1)&&m.p.stateB x.of)) _
  cases h2:(x.region == -1)with
  |false=>exact Zq (zi h10 (zi Zt h2))
  |true=>
   refine Zf (zi h10 (zi Zt h2)) ?_;refine Zc hG ?_ (s:=Zwi G c.ent d.ent m x.of);refine Z ?_;rw[Bool.true_and]
 |false=>
  have e1:¬ x.kind=10:=zu h10
  cases h11:(x.kind==11)with
  |true=>
   have e2:x.kind=11:=zu h11;rw[if_pos (show x.p.kind=10\/x.p.kind=11 from .inr e2)]
   show AW _ _ _ (Zeg _ _ λw _=>w=.bool ((x.region == -1)&&m.p.stateB x.of)) _
   cases h2:(x.region == -1)with
   |false=>exact Zq (zi (zi h10 h11) (zi Zt h2))
   |true=>
    refine Zf (zi (zi h10 h11) (zi Zt h2)) ?_;refine Zc hG ?_ (s:=Zwi G c.ent d.ent m x.of);refine Z ?_;rw[Bool.true_and]
  |false=>
   have e2:¬ x.kind=11:=zu h11;rw[if_neg (show ¬ (x.p.kind=10\/x.p.kind=11)from λh=>h.elim e1 e2)]
   show AW _ _ _ (Zeg _ _ λw _=>w=.bool ((x.of == -1)&&decide (0<=x.region)&&decide (x.region<m.regions.l.length))) _
   have f:=zi h10 (zi h11 Zt)
   cases h2:(x.of == -1)with
   |false=>exact Zq (zi f h2)
   |true=>
    by_cases h3:0<=x.region
    have q:decide (x.region>=0)=true:=zT;rw[decide_eq_true h3];exact Zq (zi f (zi h2 q));have q:decide (x.region>=0)=false:=zF;rw[decide_eq_false h3];exact Zq (zi f (zi h2 q))
theorem Zh0(G:Nat->V)(hG:GOk G)(c d:Col)(m:MdM)(hm:m.p.Rt5)(v:Int)(h0:0<=v)(h1:v<m.p.vertices.length):
  Spec Tryz.prog G 163 [Z4 c d m,.int .i64 v] Zk (λw _=>w=.int .i64 (m.p.depth v)):=by
 refine Zo 0 21 [.tmp 4] Tryz.func163 λX=>?_;simp only[Zj];refine Z ?_;intro g2;refine AW.weak (Zw (λo=>o==2) (l:=[(1,.int .i64 v),(2,.view .new (Z4 c d m))]) (m:=[]) ?_ trivial) ?_;refine Zs ?_;exact⟨Fz.same _,Fz.ptr (v:=Z4 c d m) (c:=.new) (fz:=0) zp zp⟩;simp only[Zj];refine Z ?_;refine Zc hG ?_ (s:=Zwl G hG c.ent d.ent m hm v h0 h1);refine Z ?_
 refine Zcd (fun(y:Nat×Int)=>st [(1,.int .i64 (m.p.around y.2)),(2,.view .new (Z4 c d m)),(5,.int .i64 y.1)] [])
  (λy=>y.1<=65/\0<=y.2/\y.2<m.p.vertices.length/\m.p.depth v=y.1+(m.p.upsF (65-y.1) y.2).length) (λy=>65-y.1) (0,v) ⟨Nat.zero_le _,h0,h1,by rw[Nat.zero_add]<;>rfl⟩ (Weak.st (zpf Zj) zp) ?_
 rintro⟨n,w⟩ ⟨hn,w0,w1,hd⟩ L7 hL7;simp only at hn w0 w1 hd
 by_cases ha:0<=m.p.around w
 have q0:decide (m.p.around w>=0)=true:=zT
 by_cases hn2:n<=64
 have q1:decide ((n:Int)<=64)=true:=zT;have e1:IntKind.i64.wrap ((n:Int)+1)=(n:Int)+1:=w64 zo zo
 have ha1:m.p.around w<m.p.vertices.length:=by
  rcases hm.rng w0 w1 with q|q
  omega;exact q.2
 refine Zf (zi q0 (zi q1 (zi e1 Zj))) ?_;refine Zc hG ?_ (s:=Zwl G hG c.ent d.ent m hm (m.p.around w) ha ha1);refine Z ?_;refine hL7 _ ⟨(n+1,m.p.around w),by show 65-(n+1)<65-n;omega,⟨by show n+1<=65;omega,ha,ha1,?_⟩,Weak.st (zpf Zj) zp⟩
 show m.p.depth v=n+1+(m.p.upsF (65-(n+1)) (m.p.around w)).length
 rw[hd,show 65-n=(65-(n+1))+1 by omega,PM.upsF,if_neg zo,List.length_cons];omega;have q1:decide ((n:Int)<=64)=false:=zF;refine Zf (zi q0 q1) ?_
 rw[hd,show 65-n=0 by omega]<;>rfl
 have q0:decide (m.p.around w>=0)=false:=zF;refine Zf q0 ?_
 have:m.p.upsF (65-n) w=[]:=by
  cases h:65-n with
  |zero=>rfl
  |succ f=>rw[PM.upsF,if_pos zo]
 rw[hd,this]<;>rfl
def Zw0(c d e:Col)(m:MdM)(ns vs:Sl (List UInt8)):V:=.agg [.str m.name,Za c 2 Zua m.vars,Za c 1 V.str m.events,Za c 2 Zua m.regions,Za c 8 (Z5a d) m.verts,Za c 8 (Z4b d) m.ways,Za e 1 V.str ns,Za e 1 V.str vs]
theorem Ztha(c d e:Col)(m:MdM)(ns vs:Sl (List UInt8)):Zw0 c d e m ns vs=.agg [.str m.name,Za c 2 Zua m.vars,Za c 1 V.str m.events,Za c 2 Zua m.regions,Za c 8 (Z5a d) m.verts,Za c 8 (Z4b d) m.ways,Za e 1 V.str ns,Za e 1 V.str vs]:=rfl
theorem Zela(g:Col->Col)(c d e:Col)(m:MdM)(ns vs:Sl (List UInt8)):(Zw0 c d e m ns vs).recol g=Zw0 (g c) (g d) (g e) m ns vs:=by simp only[Ztha,Z4a,List.map_cons,List.map_nil,Zuc,Zyd,Ztj,Zsj,Zuj]
def ckV(b c d e:Col)(m:MdM)(ns vs:Sl (List UInt8)):V:=.view b (Zw0 c d e m ns vs)
theorem Zxb(b c d e:Col)(m:MdM)(ns vs:Sl (List UInt8)):ckV b c d e m ns vs=.view b (.agg [.str m.name,Za c 2 Zua m.vars,Za c 1 V.str m.events,Za c 2 Zua m.regions,Za c 8 (Z5a d) m.verts,Za c 8 (Z4b d) m.ways,Za e 1 V.str ns,Za e 1 V.str vs]):=rfl
@[go_sem] theorem Z3g(g:Col->Col)(b c d e:Col)(m:MdM)(ns vs:Sl (List UInt8)):(ckV b c d e m ns vs).recol g=ckV (g b) (g c) (g d) (g e) m ns vs:=by
 show(V.view b (Zw0 c d e m ns vs)).recol g=_
 simp only[V.recol,Zela];rfl
theorem vrIm(p:List UInt8×Int):∀ y∈(Zua p).cells,y.Im:=λy hy=>by
 simp only[Z3b,V.cells,List.mem_cons,List.not_mem_nil,or_false]at hy
 rcases hy with rfl|rfl<;>first|exact .int _ _|exact .str _
theorem stIm(s:List UInt8):∀ y∈(V.str s).cells,y.Im:=λy hy=>by
 simp only[V.cells,List.mem_cons,List.not_mem_nil,or_false]at hy;rw[hy];exact .str _
theorem vtIm(c:Col)(x:VtM):∀ y∈(Z5a c x).cells,y.Im:=λy hy=>by
 simp only[Zt,V.cells,List.mem_cons,List.not_mem_nil,or_false]at hy
 rcases hy with rfl|rfl|rfl|rfl|rfl|rfl|rfl|rfl<;>first|exact .int _ _|exact .str _|exact Zud stIm _
theorem trIm(c:Col)(x:TrM):∀ y∈(Z4b c x).cells,y.Im:=λy hy=>by
 simp only[Z8,V.cells,List.mem_cons,List.not_mem_nil,or_false]at hy
 rcases hy with rfl|rfl|rfl|rfl|rfl|rfl|rfl|rfl<;>first|exact .int _ _|exact .str _|exact Zud stIm _
theorem Zet(b c d e:Col)(m:MdM)(ns vs:Sl (List UInt8)):(ckV b c d e m ns vs).Im:=.view _ _ λy hy=>by
 simp only[Ztha,V.cells,List.mem_cons,List.not_mem_nil,or_false]at hy
 rcases hy with rfl|rfl|rfl|rfl|rfl|rfl|rfl|rfl
 exact .str _;exact Zud vrIm _;exact Zud stIm _;exact Zud vrIm _;exact Zud (vtIm d) _;exact Zud (trIm d) _;exact Zud stIm _;exact Zud stIm _
theorem Zwc(G:Nat->V)(hG:GOk G)(b c d e:Col)(m:MdM)(ns vs:Sl (List UInt8))(hm:m.p.Rt5)(v:Int)(h0:0<=v)(h1:v<m.p.vertices.length):
  Spec Tryz.prog G 212 [ckV b c d e m ns vs,.int .i64 v] Zk (λw _=>w=.int .i64 (m.p.around v)):=by
 refine Zo 0 36 [.tmp 4] Tryz.func212 λX=>?_;have hpt:=hm.pt h0 h1;obtain⟨k,x,rfl,hk,hg,hx⟩:=MdM.at h0 h1;rw[PM.around];rw[hx]at hpt⊢;simp only[Zxb];have f:=zi hg (zi hk (zi Zt (zi @Int.natCast_nonneg @Int.ofNat_lt)));refine Zf f ?_;intro g5
 by_cases ho:0<=x.of
 have q:decide (x.of>=0)=true:=zT;refine Zf (zi f q) ?_
 rw[if_pos (show 0<=x.p.of from ho)]<;>rfl
 have q:decide (x.of>=0)=false:=zF;obtain⟨_,r0,r1,_⟩:=hpt.resolve_left (λh=>ho h.1);obtain⟨r,y,hr,hrk,hrg,hy⟩:=Zut r0 r1;rw[if_neg (show ¬ 0<=x.p.of from ho),hy];have hr:x.region=(r:Int):=hr;refine Zf q ?_;refine ZTf (zi f (zi hr (zi hrg (zi hrk Z3b)))) hG ?_;exact Zr
theorem Ztm(G:Nat->V)(hG:GOk G)(b c d e:Col)(m:MdM)(ns vs:Sl (List UInt8))(hm:m.p.Rt)(v s:Int)(h0:0<=v)(h1:v<m.p.vertices.length):
  Spec Tryz.prog G 174 [ckV b c d e m ns vs,.int .i64 v,.int .i64 s] Zk (λw _=>w=.bool (m.p.inB v s)):=by
 refine Zo 0 18 [.tmp 6] Tryz.func174 λX=>?_;refine Z ?_;refine Zc hG ?_ (s:=Zwc G hG _ _ _ _ m ns vs hm.toRt5 v h0 h1);refine Z ?_;refine Zcd (fun(w:Int)=>st [(0,ckV b c d e m ns vs),(1,.int .i64 (m.p.around w)),(2,.int .i64 s)] []) (λw=>0<=w/\w<m.p.vertices.length/\m.p.inB v s=m.p.inB w s) (λw=>(m.p.ups w).length) v ⟨h0,h1,rfl⟩ (Weak.st zp zp) ?_;rintro w ⟨w0,w1,hw⟩ L7 hL7
 by_cases ha:0<=m.p.around w
 have q0:decide (m.p.around w>=0)=true:=zT
 have ha1:m.p.around w<m.p.vertices.length:=by
  rcases hm.acy.rng w w0 w1 with q|q
  omega;exact q.2
 have hlen:=congrArg List.length (hm.acy.ups_cons w0 w1 ha);rw[List.length_cons]at hlen;have hin:=hm.acy.inB_up (s:=s) w0 w1 ha;cases q1:(m.p.around w==s);rw[q1,Bool.false_or]at hin;refine Zf (zi q0 q1) ?_;refine Zc hG ?_ (s:=Zwc G hG _ _ _ _ m ns vs hm.toRt5 (m.p.around w) ha ha1);refine Z ?_;exact hL7 _ ⟨m.p.around w,zo,⟨ha,ha1,by rw[hw,hin]⟩,Weak.st zp zp⟩;rw[q1,Bool.true_or]at hin;rw[hw,hin];exact Zq (zi q0 q1);have q0:decide (m.p.around w>=0)=false:=zF;rw[hw,PM.inB_nil zo];exact Zq q0
theorem Z2l(G:Nat->V)(hG:GOk G)(b c d e:Col)(m:MdM)(ns vs:Sl (List UInt8))(hm:m.p.Rt)(v s:Int)(h0:0<=v)(h1:v<m.p.vertices.length)(hs:0<=s):
  Spec Tryz.prog G 175 [ckV b c d e m ns vs,.int .i64 v,.int .i64 s] Zk (λw _=>w=.int .i64 (m.p.regU v s)):=by
 refine Zo 0 30 [.tmp 6] Tryz.func175 λX=>?_;refine Z ?_;refine Zcd (fun(w:Int)=>st [(0,ckV b c d e m ns vs),(1,.int .i64 w),(2,.int .i64 s)] []) (λw=>(w = -1/\m.p.regU v s = -1)\/(0<=w/\w<m.p.vertices.length/\m.p.regU v s=m.p.regU w s)) (λw=>if w<0 then 0 else(m.p.ups w).length+1) v (.inr ⟨h0,h1,rfl⟩) (Weak.st zp zp) ?_;rintro w hw L7 hL7
 rcases hw with ⟨rfl,hw⟩|⟨w0,w1,hw⟩
 rw[hw];exact Zr;have q0:decide (w>=0)=true:=zT;refine Zf q0 ?_;refine Zc hG ?_ (s:=Zwc G hG _ _ _ _ m ns vs hm.toRt5 w w0 w1)
 by_cases hq:m.p.around w=s
 rw[hw,PM.Acy.regU_at hq];obtain⟨k,x,hwk,hk,hg,hx⟩:=MdM.at w0 w1;rw[hx];subst hwk
 have q1:(m.p.around (k:Int) != s)=false:=by simp[hq]
 have q2:decide ((k:Int)<0)=false:=zF;exact Zh (zi q1 (zi q2 (zi hg (zi hk (zi Zt (zi Zxb (zi @Int.natCast_nonneg @Int.ofNat_lt)))))));have q1:(m.p.around w != s)=true:=zu hq;refine Zg q1 ?_;refine Zc hG ?_ (s:=Zwc G hG _ _ _ _ m ns vs hm.toRt5 w w0 w1);refine Z ?_
 by_cases ha:0<=m.p.around w
 have ha1:m.p.around w<m.p.vertices.length:=by
  rcases hm.acy.rng w w0 w1 with q|q
  omega;exact q.2
 have hlen:=congrArg List.length (hm.acy.ups_cons w0 w1 ha);rw[List.length_cons]at hlen;refine hL7 _ ⟨m.p.around w,by simp only[if_neg (show ¬ m.p.around w<0 by omega),if_neg (show ¬ w<0 by omega)];omega,.inr ⟨ha,ha1,by rw[hw,hm.acy.regU_up w0 w1 ha hq]⟩,Weak.st zp zp⟩
 have ha2:m.p.around w = -1:=by
  rcases hm.acy.rng w w0 w1 with q|q
  exact q;omega
 rw[ha2];refine hL7 _ ⟨-1,by simp only[if_neg (show ¬ w<0 by omega)];exact Nat.succ_pos _,.inl ⟨rfl,by rw[hw,PM.regU_nil zo hs]⟩,Weak.st zp zp⟩
theorem Z1l(G:Nat->V)(hG:GOk G)(b c d e:Col)(m:MdM)(ns vs:Sl (List UInt8))(hm:m.p.Rt)(v r:Int)(h0:0<=v)(h1:v<m.p.vertices.length):
  Spec Tryz.prog G 169 [ckV b c d e m ns vs,.int .i64 v,.int .i64 r] Zk (λw _=>w=.bool (m.p.withinB v r)):=by
 refine Zo 0 27 [.tmp 6] Tryz.func169 λX=>?_;refine Z ?_;refine Zcd (fun(w:Int)=>st [(0,ckV b c d e m ns vs),(1,.int .i64 w),(2,.int .i64 r)] []) (λw=>(w = -1/\m.p.withinB v r=false)\/(0<=w/\w<m.p.vertices.length/\m.p.withinB v r=m.p.withinB w r)) (λw=>if w<0 then 0 else(m.p.ups w).length+1) v (.inr ⟨h0,h1,rfl⟩) (Weak.st zp zp) ?_;rintro w hw L7 hL7
 rcases hw with ⟨rfl,hw⟩|⟨w0,w1,hw⟩
 rw[hw];exact Zr;have q0:decide (w>=0)=true:=zT;obtain⟨k,x,hwk,hk,hg,hx⟩:=MdM.at w0 w1
 by_cases hq:x.region=r
 have q1:(x.region != r)=false:=by simp[hq]
 have hy:m.p.withinB w r=true:=by
  rw[PM.withinB,List.any_cons,hx,show(x.p.region==r)=true from beq_iff_eq.2 hq,Bool.true_or]
 rw[hw,hy];subst hwk;have q3:decide ((k:Int)>=0)=true:=zT;exact Zq (zi q3 (zi q1 (zi hg (zi hk (zi Zt (zi Zxb (zi @Int.natCast_nonneg @Int.ofNat_lt)))))));have q1:(x.region != r)=true:=zu hq
 have hz:((m.p.vx w).region==r)=false:=by rw[hx];exact beq_eq_false_iff_ne.2 hq
 subst hwk;have q3:decide ((k:Int)>=0)=true:=zT;refine Zf (zi q3 (zi q1 (zi hg (zi hk (zi Zt (zi Zxb (zi @Int.natCast_nonneg @Int.ofNat_lt))))))) ?_;refine Zc hG ?_ (s:=Zwc G hG _ _ _ _ m ns vs hm.toRt5 k w0 w1);refine Z ?_
 by_cases ha:0<=m.p.around k
 have w1':=w1
 have ha1:m.p.around k<m.p.vertices.length:=by
  rcases hm.acy.rng k w0 w1 with q|q
  omega;exact q.2
 have hlen:=congrArg List.length (hm.acy.ups_cons w0 w1 ha);rw[List.length_cons]at hlen;refine hL7 _ ⟨m.p.around k,by simp only[if_neg (show ¬ m.p.around k<0 by omega),if_neg (show ¬ (k:Int)<0 by omega)];omega,.inr ⟨ha,ha1,by rw[hw,hm.acy.withinB_up w0 w1 ha,hz,Bool.false_or]⟩,Weak.st zp zp⟩
 have ha2:m.p.around k = -1:=by
  rcases hm.acy.rng k w0 w1 with q|q
  exact q;omega
 rw[ha2];refine hL7 _ ⟨-1,by simp only[if_neg (show ¬ (k:Int)<0 by omega)];exact Nat.succ_pos _,.inl ⟨rfl,by rw[hw,PM.withinB_nil zo,hz]⟩,Weak.st zp zp⟩
def Zdf(r:Nat×Int×Int):V:=.agg [.int .u8 r.1,.int .i64 r.2.1,.int .i64 r.2.2]
structure FnW{α : Type}(G:Nat->V)(f:FuncId)(cap:List V)(enc : α -> V)(l:List α)(p:Nat->Bool):Prop where
 en:Z2 Tryz.prog f=true
 rc:cap.map (V.recol Col.ent)=cap
 sp:∀ (i:Nat) (x : α),l[i]?=some x->Spec Tryz.prog G f (.int .i64 i::enc x::cap) Zk (λv _=>v=.bool (p i))
theorem Z1t(G:Nat->V)(hG:GOk G)(c:Col)(part most:Nat)(s:Sl (List UInt8×Int))(hs:s.l.length<1000000){f:FuncId}{cap:List V}{p:Nat->Bool}(hf:FnW G f cap Zua s.l p):
  Spec Tryz.prog G 147 [.int .u8 part,Za c 2 Zua s,.int .i64 most,.func (.func f) [] cap] Zk (λv _=>v=Zdf (Zpb part most p s.l.length)):=by
  refine Zo 0 36 [.cell 8 154] Tryz.func147 λX=>?_;refine Z ?_;intro g8;refine Z ?_
  refine Zaa s.l.length (λk (_:Unit)=>st [(0,.int .u8 part),(1,Za c 2 Zua s),(2,.int .i64 most),(3,.func (.func f) [] cap),(8,.ptr 8 g8 0),(11,Za c 2 Zua s),(12,.int .i64 s.l.length),(13,.int .i64 k)] [(8,.cells .new g8 0 [.int .u8 0,.int .i64 0,.int .i64 0])])
   (λk _=>∀ i,i<k->i≠most/\p i=true) 0 () (Nat.zero_le _) (λi h=>absurd h (Nat.not_lt_zero _)) (Weak.st zp zp) ?_
  intro k _ hk hR L3 hL3
  by_cases hk1:k<s.l.length
  have hlt:decide ((k:Int)<(s.l.length:Int))=true:=zT;have hg:=List.getElem?_eq_getElem hk1;generalize s.l[k]=x at hg;have w1:IntKind.i64.wrap ((k:Int)+1)=(k:Int)+1:=w64 zo zo;refine Zf (zi hlt (zi hg Z3b)) ?_;intro g10
  by_cases hm:k=most
  have q:((k:Int)==(most:Int))=true:=by simp[hm]
  rw[Zoc hk1 hR (.inl hm),if_pos hm,hm];exact Zh q
  .have q:((k:Int)==(most:Int))=false:=by
    have:¬ (k:Int)=(most:Int):=zo;simpa using this
   refine Zg q ?_;refine Zcf hf.rc hG ?_ (e:=hf.en) (s:=hf.sp k x hg)
   cases hp:p k with
   |false=>
    rw[Zoc hk1 hR (.inr hp),if_neg hm];exact Zr
   |true=>
    refine Zf w1 ?_;refine hL3 _ ⟨hk1,(),λi hi=>?_,Weak.st zp zp⟩
    by_cases h3:i=k
    rw[h3];exact⟨hm,hp⟩;exact hR i zo
  have hke:k=s.l.length:=zo;subst hke;have hlt:decide ((s.l.length:Int)<(s.l.length:Int))=false:=zS;rw[Z4f hR];exact Zq hlt
theorem Z3t(G:Nat->V)(hG:GOk G)(c:Col)(part most:Nat)(s:Sl (List UInt8))(hs:s.l.length<1000000){f:FuncId}{cap:List V}{p:Nat->Bool}(hf:FnW G f cap V.str s.l p):
  Spec Tryz.prog G 151 [.int .u8 part,Za c 1 V.str s,.int .i64 most,.func (.func f) [] cap] Zk (λv _=>v=Zdf (Zpb part most p s.l.length)):=by
  refine Zo 0 36 [.cell 8 154] Tryz.func151 λX=>?_;refine Z ?_;intro g8;refine Z ?_
  refine Zaa s.l.length (λk (_:Unit)=>st [(0,.int .u8 part),(1,Za c 1 V.str s),(2,.int .i64 most),(3,.func (.func f) [] cap),(8,.ptr 8 g8 0),(11,Za c 1 V.str s),(12,.int .i64 s.l.length),(13,.int .i64 k)] [(8,.cells .new g8 0 [.int .u8 0,.int .i64 0,.int .i64 0])])
   (λk _=>∀ i,i<k->i≠most/\p i=true) 0 () (Nat.zero_le _) (λi h=>absurd h (Nat.not_lt_zero _)) (Weak.st zp zp) ?_
  intro k _ hk hR L3 hL3
  by_cases hk1:k<s.l.length
  have hlt:decide ((k:Int)<(s.l.length:Int))=true:=zT;have hg:=List.getElem?_eq_getElem hk1;generalize s.l[k]=x at hg;have w1:IntKind.i64.wrap ((k:Int)+1)=(k:Int)+1:=w64 zo zo;refine Zf (zi hlt (zi hg hg)) ?_
  skip
  by_cases hm:k=most
  have q:((k:Int)==(most:Int))=true:=by simp[hm]
  rw[Zoc hk1 hR (.inl hm),if_pos hm,hm];exact Zh q
  .have q:((k:Int)==(most:Int))=false:=by
    have:¬ (k:Int)=(most:Int):=zo;simpa using this
   refine Zg q ?_;refine Zcf hf.rc hG ?_ (e:=hf.en) (s:=hf.sp k x hg)
   cases hp:p k with
   |false=>
    rw[Zoc hk1 hR (.inr hp),if_neg hm];exact Zr
   |true=>
    refine Zf w1 ?_;refine hL3 _ ⟨hk1,(),λi hi=>?_,Weak.st zp zp⟩
    by_cases h3:i=k
    rw[h3];exact⟨hm,hp⟩;exact hR i zo
  have hke:k=s.l.length:=zo;subst hke;have hlt:decide ((s.l.length:Int)<(s.l.length:Int))=false:=zS;rw[Z4f hR];exact Zq hlt
theorem Z4t(G:Nat->V)(hG:GOk G)(c:Col)(part most:Nat)(s:Sl (List UInt8×Int))(hs:s.l.length<1000000){f:FuncId}{cap:List V}{p:Nat->Bool}(hf:FnW G f cap Zua s.l p):
  Spec Tryz.prog G 154 [.int .u8 part,Za c 2 Zua s,.int .i64 most,.func (.func f) [] cap] Zk (λv _=>v=Zdf (Zpb part most p s.l.length)):=by
  refine Zo 0 36 [.cell 8 154] Tryz.func154 λX=>?_;refine Z ?_;intro g8;refine Z ?_
  refine Zaa s.l.length (λk (_:Unit)=>st [(0,.int .u8 part),(1,Za c 2 Zua s),(2,.int .i64 most),(3,.func (.func f) [] cap),(8,.ptr 8 g8 0),(11,Za c 2 Zua s),(12,.int .i64 s.l.length),(13,.int .i64 k)] [(8,.cells .new g8 0 [.int .u8 0,.int .i64 0,.int .i64 0])])
   (λk _=>∀ i,i<k->i≠most/\p i=true) 0 () (Nat.zero_le _) (λi h=>absurd h (Nat.not_lt_zero _)) (Weak.st zp zp) ?_
  intro k _ hk hR L3 hL3
  by_cases hk1:k<s.l.length
  have hlt:decide ((k:Int)<(s.l.length:Int))=true:=zT;have hg:=List.getElem?_eq_getElem hk1;generalize s.l[k]=x at hg;have w1:IntKind.i64.wrap ((k:Int)+1)=(k:Int)+1:=w64 zo zo;refine Zf (zi hlt (zi hg Z3b)) ?_;intro g10
  by_cases hm:k=most
  have q:((k:Int)==(most:Int))=true:=by simp[hm]
  rw[Zoc hk1 hR (.inl hm),if_pos hm,hm];exact Zh q
  .have q:((k:Int)==(most:Int))=false:=by
    have:¬ (k:Int)=(most:Int):=zo;simpa using this
   refine Zg q ?_;refine Zcf hf.rc hG ?_ (e:=hf.en) (s:=hf.sp k x hg)
   cases hp:p k with
   |false=>
    rw[Zoc hk1 hR (.inr hp),if_neg hm];exact Zr
   |true=>
    refine Zf w1 ?_;refine hL3 _ ⟨hk1,(),λi hi=>?_,Weak.st zp zp⟩
    by_cases h3:i=k
    rw[h3];exact⟨hm,hp⟩;exact hR i zo
  have hke:k=s.l.length:=zo;subst hke;have hlt:decide ((s.l.length:Int)<(s.l.length:Int))=false:=zS;rw[Z4f hR];exact Zq hlt
theorem Zpl(G:Nat->V)(hG:GOk G)(c d:Col)(part most:Nat)(s:Sl VtM)(hs:s.l.length<1000000){f:FuncId}{cap:List V}{p:Nat->Bool}(hf:FnW G f cap (Z5a d.ent) s.l p):
  Spec Tryz.prog G 158 [.int .u8 part,Za c 8 (Z5a d) s,.int .i64 most,.func (.func f) [] cap] Zk (λv _=>v=Zdf (Zpb part most p s.l.length)):=by
  refine Zo 0 36 [.cell 8 154] Tryz.func158 λX=>?_;refine Z ?_;intro g8;refine Z ?_
  refine Zaa s.l.length (λk (_:Unit)=>st [(0,.int .u8 part),(1,Za c 8 (Z5a d) s),(2,.int .i64 most),(3,.func (.func f) [] cap),(8,.ptr 8 g8 0),(11,Za c 8 (Z5a d) s),(12,.int .i64 s.l.length),(13,.int .i64 k)] [(8,.cells .new g8 0 [.int .u8 0,.int .i64 0,.int .i64 0])])
   (λk _=>∀ i,i<k->i≠most/\p i=true) 0 () (Nat.zero_le _) (λi h=>absurd h (Nat.not_lt_zero _)) (Weak.st zp zp) ?_
  intro k _ hk hR L3 hL3
  by_cases hk1:k<s.l.length
  have hlt:decide ((k:Int)<(s.l.length:Int))=true:=zT;have hg:=List.getElem?_eq_getElem hk1;generalize s.l[k]=x at hg;have w1:IntKind.i64.wrap ((k:Int)+1)=(k:Int)+1:=w64 zo zo;refine Zf (zi hlt (zi hg Zt)) ?_;intro g10
  by_cases hm:k=most
  have q:((k:Int)==(most:Int))=true:=by simp[hm]
  rw[Zoc hk1 hR (.inl hm),if_pos hm,hm];exact Zh q
  .have q:((k:Int)==(most:Int))=false:=by
    have:¬ (k:Int)=(most:Int):=zo;simpa using this
   refine Zg q ?_;refine Zcf hf.rc hG ?_ (e:=hf.en) (s:=hf.sp k x hg)
   cases hp:p k with
   |false=>
    rw[Zoc hk1 hR (.inr hp),if_neg hm];exact Zr
   |true=>
    refine Zf w1 ?_;refine hL3 _ ⟨hk1,(),λi hi=>?_,Weak.st zp zp⟩
    by_cases h3:i=k
    rw[h3];exact⟨hm,hp⟩;exact hR i zo
  have hke:k=s.l.length:=zo;subst hke;have hlt:decide ((s.l.length:Int)<(s.l.length:Int))=false:=zS;rw[Z4f hR];exact Zq hlt
theorem Z2t(G:Nat->V)(hG:GOk G)(c d:Col)(part most:Nat)(s:Sl TrM)(hs:s.l.length<1000000){f:FuncId}{cap:List V}{p:Nat->Bool}(hf:FnW G f cap (Z4b d.ent) s.l p):
  Spec Tryz.prog G 165 [.int .u8 part,Za c 8 (Z4b d) s,.int .i64 most,.func (.func f) [] cap] Zk (λv _=>v=Zdf (Zpb part most p s.l.length)):=by
  refine Zo 0 36 [.cell 8 154] Tryz.func165 λX=>?_;refine Z ?_;intro g8;refine Z ?_
  refine Zaa s.l.length (λk (_:Unit)=>st [(0,.int .u8 part),(1,Za c 8 (Z4b d) s),(2,.int .i64 most),(3,.func (.func f) [] cap),(8,.ptr 8 g8 0),(11,Za c 8 (Z4b d) s),(12,.int .i64 s.l.length),(13,.int .i64 k)] [(8,.cells .new g8 0 [.int .u8 0,.int .i64 0,.int .i64 0])])
   (λk _=>∀ i,i<k->i≠most/\p i=true) 0 () (Nat.zero_le _) (λi h=>absurd h (Nat.not_lt_zero _)) (Weak.st zp zp) ?_
  intro k _ hk hR L3 hL3
  by_cases hk1:k<s.l.length
  have hlt:decide ((k:Int)<(s.l.length:Int))=true:=zT;have hg:=List.getElem?_eq_getElem hk1;generalize s.l[k]=x at hg;have w1:IntKind.i64.wrap ((k:Int)+1)=(k:Int)+1:=w64 zo zo;refine Zf (zi hlt (zi hg Z8)) ?_;intro g10
  by_cases hm:k=most
  have q:((k:Int)==(most:Int))=true:=by simp[hm]
  rw[Zoc hk1 hR (.inl hm),if_pos hm,hm];exact Zh q
  .have q:((k:Int)==(most:Int))=false:=by
    have:¬ (k:Int)=(most:Int):=zo;simpa using this
   refine Zg q ?_;refine Zcf hf.rc hG ?_ (e:=hf.en) (s:=hf.sp k x hg)
   cases hp:p k with
   |false=>
    rw[Zoc hk1 hR (.inr hp),if_neg hm];exact Zr
   |true=>
    refine Zf w1 ?_;refine hL3 _ ⟨hk1,(),λi hi=>?_,Weak.st zp zp⟩
    by_cases h3:i=k
    rw[h3];exact⟨hm,hp⟩;exact hR i zo
  have hke:k=s.l.length:=zo;subst hke;have hlt:decide ((s.l.length:Int)<(s.l.length:Int))=false:=zS;rw[Z4f hR];exact Zq hlt
theorem Zf8(G:Nat->V)(p:List UInt8×Int)(c:Col)(a:List UInt8×Int):Spec Tryz.prog G 150 [Zua p,.view c (Zua a)] Zk (λv _=>v=.bool (p.1==a.1)):=by
 refine Zo 0 9 [.tmp 3] Tryz.func150 λX=>?_;simp only[Z3b];refine Z ?_;intro g2;exact Zr
theorem Zsga(G:Nat->V)(hG:GOk G)(c c1:Col)(s:Sl (List UInt8×Int))(hs:s.l.length<1000000)(a:List UInt8×Int):
  Spec Tryz.prog G 209 [Za c 2 Zua s,.func (.func 150) [] [.view c1 (Zua a)]] Zk (λv _=>v=.int .i64 (Zwp (λp=>p.1==a.1) s.l)):=by
 refine Zo 0 19 [.tmp 4] Tryz.func209 λX=>?_;refine Z ?_
 refine Zaa s.l.length (λk (_:Unit)=>st [(0,Za c 2 Zua s),(1,.func (.func 150) [] [.view c1 (Zua a)]),(7,.int .i64 s.l.length),(8,.int .i64 k)] []) (λk _=>∀ y∈s.l.take k,(y.1==a.1)=false) 0 () (Nat.zero_le _) zS
  (Weak.st zp zp) ?_
 intro k _ hk hR L2 hL2
 by_cases hk1:k<s.l.length
 .have hlt:decide ((k:Int)<(s.l.length:Int))=true:=zT
  have hg:=List.getElem?_eq_getElem hk1;generalize s.l[k]=x at hg;refine Zf (zi hlt (zi hg Z3b)) ?_;refine Zcf @Z3b hG ?_ (s:=Zf8 G x c1.ent a)
  cases h6:(x.1==a.1)with
  |true=>
   refine Z ?_;rw[Z6c (p:=λp:List UInt8×Int=>p.1==a.1) hg hR h6]
  |false=>
   have w1:IntKind.i64.wrap ((k:Int)+1)=(k:Int)+1:=w64 zo zo;refine Zf w1 ?_;exact hL2 _ ⟨hk1,(),Z9d hg hR h6,Weak.st (zpf @Z3b) zp⟩
 have hke:k=s.l.length:=zo;have hlt:decide ((k:Int)<(s.l.length:Int))=false:=zF;rw[hke,List.take_length]at hR;refine Zf hlt ?_;rw[Z7c (p:=λp:List UInt8×Int=>p.1==a.1) hR]
theorem Zai{α : Type}(p : α -> Bool)(l:List α):decide (Zwp p l>=0)=l.any p:=by
 unfold Zwp
 cases h:l.findIdx? p with
 |none=>
  rw[List.findIdx?_eq_none_iff]at h;rw[List.any_eq_false.2 (λx hx=>by rw[h x hx];decide)];rfl
 |some i=>
  obtain⟨h1,h2,_⟩:=List.findIdx?_eq_some_iff_getElem.1 h;rw[List.any_eq_true.2 ⟨_,List.getElem_mem h1,h2⟩];exact decide_eq_true (Int.natCast_nonneg i)
theorem Zzha(G:Nat->V)(hG:GOk G)(c c1:Col)(s:Sl (List UInt8×Int))(hs:s.l.length<1000000)(a:List UInt8×Int):
  Spec Tryz.prog G 149 [Za c 2 Zua s,.func (.func 150) [] [.view c1 (Zua a)]] Zk (λv _=>v=.bool (s.l.any λp=>p.1==a.1)):=by
 refine Zo 0 9 [.tmp 4] Tryz.func149 λX=>?_;refine Z ?_;refine Zcf @Z3b hG ?_ (s:=Zsga G hG c.ent c1.ent s hs a);refine Z ?_;rw[Zai]
theorem Zvga(G:Nat->V)(c:Col)(t:Int)(s:Sl Int)(hs:s.l.length<1000000):Spec Tryz.prog G 71 [Za c 1 (V.int .i64) s,.int .i64 t] Zk (λv _=>v=.int .i64 (Zwp (t == ·) s.l)):=by
  refine Zo 0 19 [.tmp 4] Tryz.func71 λX=>?_;refine Z ?_;refine Zaa s.l.length (λk (_:Unit)=>st [(0,Za c 1 (V.int .i64) s),(1,.int .i64 t),(7,.int .i64 s.l.length),(8,.int .i64 k)] []) (λk _=>∀ y∈s.l.take k,(t==y)=false) 0 () (Nat.zero_le _) zS (Weak.st zp zp) ?_;intro k _ hk hR L2 hL2
  by_cases hk1:k<s.l.length
  have hlt:decide ((k:Int)<(s.l.length:Int))=true:=zT;have hg:=List.getElem?_eq_getElem hk1;generalize s.l[k]=x at hg;have w1:IntKind.i64.wrap ((k:Int)+1)=(k:Int)+1:=w64 zo zo;cases h6:(t==x);refine Zf (zi hlt (zi hg (zi h6 w1))) ?_;exact hL2 _ ⟨hk1,(),Z9d hg hR h6,Weak.st zp zp⟩;refine Zf (zi hlt (zi hg h6)) ?_;rw[Z6c (p:=λy=>t==y) hg hR h6];have hke:k=s.l.length:=zo;have hlt:decide ((k:Int)<(s.l.length:Int))=false:=zF;rw[hke,List.take_length]at hR;refine Zf hlt ?_;rw[Z7c (p:=λy=>t==y) hR]
theorem Ztga(G:Nat->V)(c:Col)(t:Int)(s:Sl Int)(hs:s.l.length<1000000):Spec Tryz.prog G 179 [Za c 1 (V.int .u8) s,.int .u8 t] Zk (λv _=>v=.int .i64 (Zwp (t == ·) s.l)):=by
  refine Zo 0 19 [.tmp 4] Tryz.func179 λX=>?_;refine Z ?_;refine Zaa s.l.length (λk (_:Unit)=>st [(0,Za c 1 (V.int .u8) s),(1,.int .u8 t),(7,.int .i64 s.l.length),(8,.int .i64 k)] []) (λk _=>∀ y∈s.l.take k,(t==y)=false) 0 () (Nat.zero_le _) zS (Weak.st zp zp) ?_;intro k _ hk hR L2 hL2
  by_cases hk1:k<s.l.length
  have hlt:decide ((k:Int)<(s.l.length:Int))=true:=zT;have hg:=List.getElem?_eq_getElem hk1;generalize s.l[k]=x at hg;have w1:IntKind.i64.wrap ((k:Int)+1)=(k:Int)+1:=w64 zo zo;cases h6:(t==x);refine Zf (zi hlt (zi hg (zi h6 w1))) ?_;exact hL2 _ ⟨hk1,(),Z9d hg hR h6,Weak.st zp zp⟩;refine Zf (zi hlt (zi hg h6)) ?_;rw[Z6c (p:=λy=>t==y) hg hR h6];have hke:k=s.l.length:=zo;have hlt:decide ((k:Int)<(s.l.length:Int))=false:=zF;rw[hke,List.take_length]at hR;refine Zf hlt ?_;rw[Z7c (p:=λy=>t==y) hR]
theorem Zik(G:Nat->V)(hG:GOk G)(c:Col)(t:Int)(s:Sl Int)(hs:s.l.length<1000000):Spec Tryz.prog G 33 [Za c 1 (V.int .i64) s,.int .i64 t] Zk (λv _=>v=.bool (s.l.contains t)):=by
 refine Zo 0 9 [.tmp 4] Tryz.func33 λX=>?_;refine Z ?_;refine Zc hG ?_ (s:=Zvga G _ t s hs);refine Z ?_;rw[Zai,<- List.contains_eq_any_beq]
theorem Zyv(G:Nat->V)(hG:GOk G)(c:Col)(t:Int)(s:Sl Int)(hs:s.l.length<1000000):Spec Tryz.prog G 114 [Za c 1 (V.int .u8) s,.int .u8 t] Zk (λv _=>v=.bool (s.l.contains t)):=by
 refine Zo 0 9 [.tmp 4] Tryz.func114 λX=>?_;refine Z ?_;refine Zc hG ?_ (s:=Ztga G _ t s hs);refine Z ?_;rw[Zai,<- List.contains_eq_any_beq]
theorem Ztb(G:Nat->V)(hG:GOk G)(b c d e f:Col)(m:MdM)(ns vs:Sl (List UInt8))(v:Int)(h0:0<=v)(h1:v<m.p.vertices.length)(ks:Sl Int)(hk:ks.l.length<1000000):
  Spec Tryz.prog G 167 [ckV b c d e m ns vs,.int .i64 v,Za f 1 (V.int .u8) ks] Zk (λw _=>w=.bool (ks.l.contains (m.p.kd v))):=by
 refine Zo 0 18 [.tmp 6] Tryz.func167 λX=>?_;obtain⟨k,x,rfl,hk,hg,hx⟩:=MdM.at h0 h1;rw[PM.kd,hx];simp only[Zxb];refine Zf (zi hg (zi hk (zi Zt (zi @Int.natCast_nonneg @Int.ofNat_lt)))) ?_;refine Zc hG ?_ (s:=Zyv G hG _ x.kind ks (by assumption));exact Zr
theorem Zpga(m:MdM)(v:Int):m.p.inc v=(m.ways.l.filter λt=>t.target==v).map (·.source):=by
 show((m.ways.l.map TrM.p).filter _).map _=_
 rw[List.filter_map,List.map_map]<;>rfl
theorem Zafa(m:MdM)(v:Int):m.p.out v=(m.ways.l.filter λt=>t.source==v).map (·.target):=by
 show((m.ways.l.map TrM.p).filter _).map _=_
 rw[List.filter_map,List.map_map]<;>rfl
theorem Zkk(G:Nat->V)(hG:GOk G)(b c d e:Col)(m:MdM)(ns vs:Sl (List UInt8))(hw:m.ways.l.length<1000000)(v:Int):
  Spec Tryz.prog G 170 [ckV b c d e m ns vs,.int .i64 v] Zk (λw _=>w=Za .new 1 (V.int .i64) (Zb (m.p.inc v))):=by
 rw[Zpga];refine Zo 0 28 [.tmp 4] Tryz.func170 λX=>?_;simp only[Zxb];refine Z ?_
 refine Zaa m.ways.l.length (λk (g:Nat)=>st [(0,ckV b c d e m ns vs),(1,.int .i64 v),(4,grown 25 g 1 (((m.ways.l.take k).filter λt=>t.target==v).map (·.source))),(11,Za c 8 (Z4b d) m.ways),(12,.int .i64 m.ways.l.length),(13,.int .i64 k)] [(25,Zca g (V.int .i64) (((m.ways.l.take k).filter λt=>t.target==v).map (·.source)))])
  (λ_ _=>True) 0 0 (Nat.zero_le _) trivial (Weak.st (zpf @Zxb) zp) ?_
 intro k g hk _ L3 hL3
 by_cases hk1:k<m.ways.l.length
 have hlt:decide ((k:Int)<(m.ways.l.length:Int))=true:=zT;have hg:=List.getElem?_eq_getElem hk1
 have htk:m.ways.l.take (k+1)=m.ways.l.take k++[m.ways.l[k]]:=by rw[List.take_succ_eq_append_getElem hk1]
 have hlen:(((m.ways.l.take k).filter λt=>t.target==v).map (·.source)).length<=k:=by
  rw[List.length_map];exact Nat.le_trans (List.length_filter_le _ _) (by rw[List.length_take];omega)
 generalize m.ways.l[k]=x at hg htk;have w1:IntKind.i64.wrap ((k:Int)+1)=(k:Int)+1:=w64 zo zo;rw[htk]at hL3;simp only[List.filter_append,List.map_append]at hL3;generalize((m.ways.l.take k).filter λt=>t.target==v).map (·.source)=acc at hlen hL3;refine Zf (zi hlt (zi hg Z8)) ?_;intro g6;cases q:(x.target==v);rw[List.filter_cons_of_neg (by simp[q])]at hL3;simp only[List.filter_nil,List.map_nil,List.append_nil]at hL3;refine Zf (zi q w1) ?_;exact hL3 _ ⟨hk1,g,trivial,Weak.st (zpf @Zxb) zp⟩;rw[List.filter_cons_of_pos (by simp[q])]at hL3;simp only[List.filter_nil,List.map_nil,List.map_cons]at hL3;refine Zf (zi q Z8) ?_;intro g24;refine Zhb (f:=V.int .i64) (l:=acc) (l2:=[x.source]) (g:=g) (λ_=>rfl) rfl rfl rfl zp (Z9 zo zO) λg2=>?_;refine Zs ?_;refine Zf w1 ?_;exact hL3 _ ⟨hk1,g2,trivial,Weak.st (zpf @Zxb) zp⟩;have hke:k=m.ways.l.length:=zo;subst hke;rw[List.take_length];have hlt:decide ((m.ways.l.length:Int)<(m.ways.l.length:Int))=false:=zS;generalize(m.ways.l.filter λt=>t.target==v).map (·.source)=acc;refine AW.weak (Zw (λo=>o==25) (l:=[(0,ckV b c d e m ns vs),(4,Za .new 1 (V.int .i64) (Zb acc)),(12,.int .i64 m.ways.l.length),(13,.int .i64 m.ways.l.length)]) (m:=[]) ?_ trivial) ?_;refine Zs ?_;exact⟨Fz.same _,Zkc (l:=acc) (g:=g) (f:=V.int .i64) rfl zp (λ_=>rfl),Fz.same _⟩;exact Zq hlt
theorem Zef(G:Nat->V)(hG:GOk G)(b c d e:Col)(m:MdM)(ns vs:Sl (List UInt8))(hw:m.ways.l.length<1000000)(v:Int):
  Spec Tryz.prog G 168 [ckV b c d e m ns vs,.int .i64 v] Zk (λw _=>w=Za .new 1 (V.int .i64) (Zb (m.p.out v))):=by
 rw[Zafa];refine Zo 0 28 [.tmp 4] Tryz.func168 λX=>?_;simp only[Zxb];refine Z ?_
 refine Zaa m.ways.l.length (λk (g:Nat)=>st [(0,ckV b c d e m ns vs),(1,.int .i64 v),(4,grown 25 g 1 (((m.ways.l.take k).filter λt=>t.source==v).map (·.target))),(11,Za c 8 (Z4b d) m.ways),(12,.int .i64 m.ways.l.length),(13,.int .i64 k)] [(25,Zca g (V.int .i64) (((m.ways.l.take k).filter λt=>t.source==v).map (·.target)))])
  (λ_ _=>True) 0 0 (Nat.zero_le _) trivial (Weak.st (zpf @Zxb) zp) ?_
 intro k g hk _ L3 hL3
 by_cases hk1:k<m.ways.l.length
 have hlt:decide ((k:Int)<(m.ways.l.length:Int))=true:=zT;have hg:=List.getElem?_eq_getElem hk1
 have htk:m.ways.l.take (k+1)=m.ways.l.take k++[m.ways.l[k]]:=by rw[List.take_succ_eq_append_getElem hk1]
 have hlen:(((m.ways.l.take k).filter λt=>t.source==v).map (·.target)).length<=k:=by
  rw[List.length_map];exact Nat.le_trans (List.length_filter_le _ _) (by rw[List.length_take];omega)
 generalize m.ways.l[k]=x at hg htk;have w1:IntKind.i64.wrap ((k:Int)+1)=(k:Int)+1:=w64 zo zo;rw[htk]at hL3;simp only[List.filter_append,List.map_append]at hL3;generalize((m.ways.l.take k).filter λt=>t.source==v).map (·.target)=acc at hlen hL3;refine Zf (zi hlt (zi hg Z8)) ?_;intro g6;cases q:(x.source==v);rw[List.filter_cons_of_neg (by simp[q])]at hL3;simp only[List.filter_nil,List.map_nil,List.append_nil]at hL3;refine Zf (zi q w1) ?_;exact hL3 _ ⟨hk1,g,trivial,Weak.st (zpf @Zxb) zp⟩;rw[List.filter_cons_of_pos (by simp[q])]at hL3;simp only[List.filter_nil,List.map_nil,List.map_cons]at hL3;refine Zf (zi q Z8) ?_;intro g24;refine Zhb (f:=V.int .i64) (l:=acc) (l2:=[x.target]) (g:=g) (λ_=>rfl) rfl rfl rfl zp (Z9 zo zO) λg2=>?_;refine Zs ?_;refine Zf w1 ?_;exact hL3 _ ⟨hk1,g2,trivial,Weak.st (zpf @Zxb) zp⟩;have hke:k=m.ways.l.length:=zo;subst hke;rw[List.take_length];have hlt:decide ((m.ways.l.length:Int)<(m.ways.l.length:Int))=false:=zS;generalize(m.ways.l.filter λt=>t.source==v).map (·.target)=acc;refine AW.weak (Zw (λo=>o==25) (l:=[(0,ckV b c d e m ns vs),(4,Za .new 1 (V.int .i64) (Zb acc)),(12,.int .i64 m.ways.l.length),(13,.int .i64 m.ways.l.length)]) (m:=[]) ?_ trivial) ?_;refine Zs ?_;exact⟨Fz.same _,Zkc (l:=acc) (g:=g) (f:=V.int .i64) rfl zp (λ_=>rfl),Fz.same _⟩;exact Zq hlt
def wkV(b c d e f g:Col)(m:MdM)(x:IxM):V:=.view b (.agg [.str m.name,Za c 2 Zua m.vars,Za c 1 V.str m.events,Za c 2 Zua m.regions,Za c 8 (Z5a d) m.verts,Za c 8 (Z4b d) m.ways,ixV e f g x])
theorem Z1e(b c d e f g:Col)(m:MdM)(x:IxM):wkV b c d e f g m x=.view b (.agg [.str m.name,Za c 2 Zua m.vars,Za c 1 V.str m.events,Za c 2 Zua m.regions,Za c 8 (Z5a d) m.verts,Za c 8 (Z4b d) m.ways,ixV e f g x]):=rfl
theorem Zae(q:Col->Col)(b c d e f g:Col)(m:MdM)(x:IxM):(wkV b c d e f g m x).recol q=wkV (q b) (q c) (q d) (q e) (q f) (q g) m (x.rc q):=by
 simp only[Z1e,V.recol,Zja,Zyd,Ztj,Zsj,Zuj,Zz5]
theorem Zhna(b c d e f g:Col)(m:MdM)(x:IxM):(wkV b c d e f g m x).cells=[wkV b c d e f g m x]:=rfl
theorem Zwka(b c d e f g:Col)(m:MdM)(x:IxM):(wkV b c d e f g m x).solid=true:=rfl
theorem Zgma(n:Nat)(ob:AObj)(q b c d:Col)(x:IxM):Zng (some (false,n)) ob (.view q (ixV b c d x))=some (ixV b c d x):=rfl
attribute[go_sem]Zae Zhna Zwka Zgma
theorem Z1d(G:Nat->V)(hG:GOk G)(b c d e f g c1:Col)(m:MdM)(x:IxM)(v:Int)(h0:0<=v)(h1:v<m.p.vertices.length)(s:Sl Int)(hs:s.l.length<1000000):
  Spec Tryz.prog G 58 [wkV b c d e f g m x,.int .i64 v,Za c1 1 (V.int .u8) s] Zk (λw _=>w=.bool (s.l.contains (m.p.kd v))):=by
 refine Zo 0 18 [.tmp 6] Tryz.func58 λX=>?_;obtain⟨k,y,rfl,hk,hg,e1⟩:=m.at h0 h1
 have e2:m.p.kd (k:Int)=y.kind:=by rw[PM.kd,e1]<;>rfl
 rw[e2];refine Zf (zi hg (zi hk (zi Zt (zi Z1e (zi @Int.natCast_nonneg @Int.ofNat_lt))))) ?_;refine Zc hG ?_ (s:=Zyv G hG _ _ _ hs);exact Zr
theorem con1(k a:Int):[a].contains k=(k==a):=by
 show List.elem k [a]=_
 simp only[List.elem]
 cases k==a<;>rfl
theorem con2(k a b:Int):[a,b].contains k=(k==a||k==b):=by
 show List.elem k [a,b]=_
 simp only[List.elem]
 cases k==a<;>cases k==b<;>rfl
theorem Z6z(G:Nat->V)(hG:GOk G)(b c d e f g:Col)(m:MdM)(x:IxM)(hx:IxP m.p x)(hw:m.p.ways.length<1000000)(v:Int)(h0:0<=v)(h1:v<m.p.vertices.length):
  Spec Tryz.prog G 218 [wkV b c d e f g m x,.int .i64 v] Zk (λw _=>w=.bool (m.p.oneP v)):=by
 refine Zo 0 25 [.tmp 4] Tryz.func218 λX=>?_;rw[PM.oneP];refine Z ?_;intro g7;refine Z8a (λo=>o==7) [wkV b c d e f g m x,.int .i64 v,Za .new 1 (V.int .u8) (.mk false [5,11])] [] ⟨Fz.same _,Fz.same _,?_,trivial⟩ trivial ?_;exact Z2b (f:=V.int .u8) (l:=[5,11]) (m:=1) (g:=g7) (fz:=0) (c:=.new) rfl zp λ_=>rfl;refine Zc hG ?_ (s:=Z1d G hG _ _ _ _ _ _ _ m _ v h0 h1 _ zd);rw[con2];cases q1:(m.p.kd v==5||m.p.kd v==11);refine Zg q1 ?_;intro g12;refine Z8a (λo=>o==12) [wkV b c d e f g m x,.int .i64 v,Za .new 1 (V.int .u8) (.mk false [10])] [] ⟨Fz.same _,Fz.same _,?_,trivial⟩ trivial ?_;exact Z2b (f:=V.int .u8) (l:=[10]) (m:=1) (g:=g12) (fz:=0) (c:=.new) rfl zp λ_=>rfl;refine Zc hG ?_ (s:=Z1d G hG _ _ _ _ _ _ _ m _ v h0 h1 _ zd);rw[con1];cases q2:(m.p.kd v==10);refine Zg q2 ?_;rfl
 .refine Zg (zi q2 Z1e) ?_
  refine Ze hG (λw hw'=>?_) (s:=Zio G hG _ _ _ _ m.p (hx.rc _) hw v h0 h1);obtain⟨s,hs,rfl⟩:=hw';refine Zg hs ?_;rw[Bool.false_or,Bool.true_and];refine congrArg V.bool ?_;rw[Bool.eq_iff_iff];simp
  try omega
 refine Zg q1 ?_;rfl
theorem Zx8(G:Nat->V)(hG:GOk G)(b c d e f g:Col)(m:MdM)(x:IxM)(hx:IxP m.p x)(hw:m.p.ways.length<1000000)(v:Int)(h0:0<=v)(h1:v<m.p.vertices.length):
  Spec Tryz.prog G 118 [wkV b c d e f g m x,.int .i64 v] Zk (λw _=>w=.bool (m.p.allP v)):=by
 refine Zo 0 25 [.tmp 4] Tryz.func118 λX=>?_;rw[PM.allP];refine Z ?_;intro g7;refine Z8a (λo=>o==7) [wkV b c d e f g m x,.int .i64 v,Za .new 1 (V.int .u8) (.mk false [6])] [] ⟨Fz.same _,Fz.same _,?_,trivial⟩ trivial ?_;exact Z2b (f:=V.int .u8) (l:=[6]) (m:=1) (g:=g7) (fz:=0) (c:=.new) rfl zp λ_=>rfl;refine Zc hG ?_ (s:=Z1d G hG _ _ _ _ _ _ _ m _ v h0 h1 _ zd);rw[con1];cases q1:(m.p.kd v==6);refine Zg q1 ?_;intro g12;refine Z8a (λo=>o==12) [wkV b c d e f g m x,.int .i64 v,Za .new 1 (V.int .u8) (.mk false [10])] [] ⟨Fz.same _,Fz.same _,?_,trivial⟩ trivial ?_;exact Z2b (f:=V.int .u8) (l:=[10]) (m:=1) (g:=g12) (fz:=0) (c:=.new) rfl zp λ_=>rfl;refine Zc hG ?_ (s:=Z1d G hG _ _ _ _ _ _ _ m _ v h0 h1 _ zd);rw[con1];cases q2:(m.p.kd v==10);refine Zg q2 ?_;rfl
 .refine Zg (zi q2 Z1e) ?_
  refine Ze hG (λw hw'=>?_) (s:=Zio G hG _ _ _ _ m.p (hx.rc _) hw v h0 h1);obtain⟨s,hs,rfl⟩:=hw';refine Zg hs ?_;rw[Bool.false_or,Bool.true_and];refine congrArg V.bool ?_;rw[Bool.eq_iff_iff];simp
  try omega
 refine Zg q1 ?_;rfl
end Go.Hs
end

section
namespace Go.Hs
open Go.Proofs
set_option maxRecDepth 10000
set_option maxHeartbeats 2000000
def encW(p:List Int×Int):List V:=[Za .new 1 (V.int .i64) (.mk false p.1),.int .i64 p.2]
theorem Zroa(p:List Int)(v:Int):encW (p,v)=[Za .new 1 (V.int .i64) (.mk false p),.int .i64 v]:=rfl
theorem Zak{σ κ : Type}(nx : σ -> κ -> Bool × σ)(s : σ)(k : κ):Zla nx s [k]=nx s k:=by
 rw[Zla,Zla];generalize nx s k=r;obtain⟨b,s'⟩:=r
 cases b<;>rfl
theorem Zmo{σ κ : Type}(nx : σ -> κ -> Bool × σ):∀ (a b:List κ) (s : σ),Zla nx s (a++b)=if(Zla nx s a).1=true then Zla nx (Zla nx s a).2 b else(false,(Zla nx s a).2)
 |[],b,s=>rfl
 |k::r,b,s=>by
  rw[List.cons_append,Zla,Zla];cases q:(nx s k).1;rfl;simp only[if_true];exact Zmo nx r b _
theorem Zsm{σ κ : Type}{dom : σ -> κ -> Prop}{nx : σ -> κ -> Bool × σ}:∀ {a b:List κ} {s : σ},Z0o dom nx s (a++b)->Z0o dom nx s a/\((Zla nx s a).1=true->Z0o dom nx (Zla nx s a).2 b)
 |[],b,s,h=>⟨trivial,λ_=>h⟩
 |k::r,b,s,h=>by
  obtain⟨h1,h2⟩:=h;refine⟨⟨h1,λq=>(Zsm (h2 q)).1⟩,λq=>?_⟩;rw[Zla]at q⊢;cases q1:(nx s k).1;rw[q1]at q;simp at q;rw[q1]at q;simp only[if_true]at q⊢;exact(Zsm (h2 q1)).2 q
theorem Zgf{E:Ent}{lo:Nat}{τ : Nat->V}{H B:Heap}{l:List (Nat×V)}{m:List (Nat×AObj)}(h:Zot (λ_=>false) H τ l)(hm:Ztg H m)(hB:Zia lo H=Zia lo B):Weak E ⟨τ,H⟩ (Hs.stM lo B l m):=by
 refine Zqd (λ_=>false) (λt=>Zin t h) (λo=>?_)
 show FzO _ H o (Zfa (Zia lo B) m o)
 rcases Zob (τ := Zia lo B) (f:=H) o m (Z1b hm)with h1|h1
 rw[h1,<- hB]
 rcases Nat.lt_or_ge o lo with q|q
 rw[Zib q];trivial
 .rw[Zrc q]
  have:=FzO.same (F:=λ_=>false) (H:=H) (o:=o) rfl
  cases hh:H o with
  |mp=>trivial
  |_=>rw[hh]at this;exact this
 rw[h1];exact FzO.same rfl
theorem Zcda{P:Program}{lo:Nat}(F:Nat->Bool){G:Nat->V}{f:FuncId}{args:List V}{H:Heap}{K:V->Heap->Prop}(B:Heap)(args':List V)(hA:FzL F H args args')(hB:Zia lo H=Zia lo B)(hF:∀ o,lo<=o->F o=false)(h:CallA P G f args' (Zia lo B) K):CallA P G f args H K:=
 Zrk F hA.get.1 hA.get.2 (λo=>by
  rcases Nat.lt_or_ge o lo with q|q
  rw[Zib q];trivial
  .rw[<- hB,Zrc q]
   have:=FzO.same (H:=H) (hF o q)
   cases hh:H o with
   |mp=>trivial
   |_=>rw[hh]at this;exact this) h
def PM.walkG(m:PM)(f:Nat)(path:List Int)(t:Int):List (List Int×Int):=if path.contains t=true then[(path++[t],-1)]else m.walkF f (m.tg t) (path++[t])
theorem Zpk(m:PM)(f:Nat)(v:Int)(path:List Int):m.walkF (f+1) v path=if m.oneP v=true then(m.outI v).flatMap (m.walkG f path)else[(path,v)]:=rfl
theorem walk_yf(G:Nat->V)(hG:GOk G)(m:MdM)(x:IxM)(hx:IxP m.p x)(hw:m.p.ways.length<100000)(hr:∀ t:Int,0<=t->t<m.p.ways.length->0<=m.p.tg t/\m.p.tg t<m.p.vertices.length):
  ∀ (f:Nat) (path:List Int) (v:Int) (b c d e f' g:Col) (H:Heap),0<=v->v<m.p.vertices.length->path.Nodup->(∀ t∈path,0<=t/\t<m.p.ways.length)->m.p.ways.length+1-path.length<=f ->
   YfSp Tryz.prog G 100 181 (λy=>[wkV b c d e f' g m x,.int .i64 v,Za .new 1 (V.int .i64) (.mk false path),y]) H encW (m.p.walkF f v path) V.bool:=by
 intro fu
 induction fu with
 |zero=>
  intro path v b c d e f' g H h0 h1 hnd hrg hf;have:=PM.nodup_len hnd hrg;omega
 |succ fu ih=>
  intro path v b c d e f' g H h0 h1 hnd hrg hf;have hpl:path.length<=m.p.ways.length:=PM.nodup_len hnd hrg;refine Zdc .plain 0 57 4 [.tmp 8] Tryz.func181 λX t cl σ R dom nx s0 hy hd hR hP=>?_;refine AW.weak (Zva (lo:=100) (B:=H) (l:=[(0,wkV b c d e f' g m x),(1,.int .i64 v),(2,Za .new 1 (V.int .i64) (.mk false path)),(3,.func t [] cl)]) (m:=[]) ⟨rfl,rfl,rfl,rfl,trivial⟩ trivial rfl) ?_;refine Z ?_;refine Zc hG ?_ (s:=Z6z G hG _ _ _ _ _ _ m _ (hx.rc _) zo v h0 h1);rw[Zpk]at hd⊢;cases q:m.p.oneP v;rw[q]at hd;simp only[Bool.false_eq_true,if_false]at hd⊢;refine Zsf q ?_;refine Z2f rfl ?_;refine Z6 (Zrb [3] zk (by rfl) ?_);simp -implicitDefEqProofs only[go_sem,seval,Z7y];refine⟨_,rfl,Zvf hy s0 (path,v) zp zm hd.1 ?_ (λH2 hR2 hlow=>?_) zk (n:=3) rfl zp⟩;simp -implicitDefEqProofs only[go_sem,seval];exact hR;refine Zs ?_;refine AW.ret ?_;refine Zs ?_;refine Z6b ?_;rw[Zak];exact⟨.inl rfl,hR2⟩;rw[q]at hd;simp only[if_true]at hd⊢;refine Zsf (zi q Z1e) ?_;refine Zad rfl ?_;refine AW.skip ?_;refine Zsf Z1e ?_;refine Z6 (Zne zk ?_);simp -implicitDefEqProofs only[go_sem,seval,Z1e];refine Ze hG (λw hw'=>?_) (s:=Zio G hG _ _ _ _ m.p (hx.rc _) zo v h0 h1);obtain⟨out,hout,rfl⟩:=hw'
  have hol:out.l.length<=m.p.ways.length:=by rw[hout];exact PM.wysI_len _ _ _
  have hor:∀ t∈out.l,0<=t/\t<m.p.ways.length:=λt ht=>by rw[hout]at ht;exact(PM.mem_out.1 ht).1
  rw[<- hout]at hd⊢;clear hout;refine Zs ?_;refine AW.block ?_
  refine Zaa out.l.length (λk (w : σ × Heap)=>Hs.stM 100 w.2 [(0,wkV b c d e f' g m x),(1,.int .i64 v),(2,Za .new 1 (V.int .i64) (.mk false path)),(3,.func t [] cl),(25,Za .new 1 (V.int .i64) out),(26,.int .i64 out.l.length),(27,.int .i64 k)] [])
   (λk w=>Z0o dom nx w.1 ((out.l.drop k).flatMap (m.p.walkG fu path))/\R w.1 (Zia 100 w.2)/\Zla nx s0 (out.l.flatMap (m.p.walkG fu path))=Zla nx w.1 ((out.l.drop k).flatMap (m.p.walkG fu path))) 0 (s0,H) (Nat.zero_le _) ⟨hd,hR,rfl⟩
   (Zva ⟨rfl,rfl,rfl,rfl,zp,zp,zp,trivial⟩ trivial zp) ?_
  rintro k ⟨sk,Hk⟩ hk ⟨dk,rk,fk⟩ L hL;simp only at dk rk fk
  by_cases hk1:k<out.l.length
  have hlt:decide ((k:Int)<(out.l.length:Int))=true:=zT;have hg:=List.getElem?_eq_getElem hk1;have hmem:=List.getElem_mem hk1;rw[List.drop_eq_getElem_cons hk1,List.flatMap_cons]at dk fk;generalize out.l[k]=tt at hg hmem dk fk;obtain⟨tr0,tr1⟩:=hor tt hmem;refine Zf (zi hlt (zi hg (zi hk1 (zi @Int.natCast_nonneg @Int.ofNat_lt)))) ?_;intro g33;refine Zcda (lo:=100) (λo=>o==33) Hk [Za .new 1 (V.int .i64) (.mk false path),Za .new 1 (V.int .i64) (.mk false [tt])] ⟨Fz.same _,Z2b (f:=V.int .i64) (l:=[tt]) (m:=1) (g:=g33) (fz:=0) (c:=.new) rfl zp (λ_=>rfl),trivial⟩ zp (λo ho=>zO) ?_;refine Zc hG ?_ (s:=Z2m G hG _ _ _ _ (by show path.length<_;omega) (by show(1:Nat)<_;omega) (by show path.length+1≠0;omega));refine Zs ?_
  refine AW.weak (Zgf (lo:=100) (B:=Hk) (l:=[(0,wkV b c d e f' g m x),(1,.int .i64 v),(2,Za .new 1 (V.int .i64) (.mk false path)),(3,.func t [] cl),(10,.int .i64 tt),(11,Za .new 1 (V.int .i64) (.mk false (path++[tt]))),(25,Za .new 1 (V.int .i64) out),(26,.int .i64 out.l.length),(27,.int .i64 k)]) (m:=[])
   (by refine Zs ?_;exact⟨Fz.same _,Fz.same _,Fz.same _,Fz.same _,Fz.same _,Fz.same _,Fz.same _,Fz.same _,Fz.same _⟩) trivial zp) ?_
  refine Z6 (Zne zk ?_);refine Zs ?_;refine Zc hG ?_ (s:=Zik G hG _ _ (.mk false path) (by show path.length<_;omega));rw[PM.walkG]at dk fk;have w1:IntKind.i64.wrap ((k:Int)+1)=(k:Int)+1:=w64 zo zo;cases q2:path.contains tt;rw[q2]at dk fk;simp only[Bool.false_eq_true,if_false]at dk fk;refine Zsf q2 ?_;refine Zad rfl ?_;refine AW.skip ?_;refine Zs ?_;obtain⟨n,y,rfl,hn,hgy,ey⟩:=m.wyAt tr0 tr1
  have etg:m.p.tg (n:Int)=y.target:=by rw[PM.tg,ey];rfl
  obtain⟨tg0,tg1⟩:=hr _ tr0 tr1;obtain⟨da,db⟩:=Zsm dk;refine Z6 (Zrb [12] zk (by rfl) ?_);simp -implicitDefEqProofs only[go_sem,seval,Z7y,hgy,hn,Z1e,Z8,@Int.natCast_nonneg,@Int.ofNat_lt];refine⟨_,rfl,Zzm 100 (Nat.le_refl _) (ih (path++[(n:Int)]) (m.p.tg n) b c d e f' g _ tg0 tg1 ?_ ?_ ?_) zk (λX' hle=>hy.at hle) sk rfl ?_ da ?_ (λH2 hR2 _=>?_) zk (n:=12) rfl zp (λ_ _ _=>trivial)⟩;rw[List.nodup_append];refine⟨hnd,List.pairwise_singleton ..,λa ha b' hb e=>?_⟩;rw[List.mem_singleton]at hb;subst hb e;rw[List.contains_iff_mem.2 ha]at q2;cases q2;intro t ht
  rcases List.mem_append.1 ht with ht|ht
  exact hrg t ht;rw[List.mem_singleton]at ht;subst ht;exact⟨tr0,tr1⟩;rw[List.length_append]
  show _-(path.length+1)<=_
  omega;simp -implicitDefEqProofs only[go_sem,seval,etg,Z1e];simp -implicitDefEqProofs only[go_sem,seval];exact rk;refine Zs ?_;rw[Zmo]at fk;generalize Zla nx sk (m.p.walkF fu (m.p.tg (n:Int)) (path++[(n:Int)]))=r at hR2 db fk⊢;obtain⟨bb,s2⟩:=r;cases bb;refine Z ?_;rw[fk];exact⟨.inl rfl,hR2⟩;refine Zf w1 ?_;exact hL _ ⟨hk1,(s2,H2),⟨db rfl,hR2,fk⟩,Zva ⟨rfl,rfl,rfl,rfl,zp,zp,zp,trivial⟩ trivial rfl⟩;rw[q2]at dk fk;simp only[if_true]at dk fk;refine Zsf q2 ?_;refine Z2f rfl ?_;refine Z6 (Z6 (Zrb [2] zk (by rfl) ?_));simp -implicitDefEqProofs only[go_sem,seval,Z7y];refine⟨_,rfl,Zvf hy sk (path++[tt],-1) zp zm dk.1 ?_ (λH2 hR2 hlow=>?_) zk (n:=2) rfl zp⟩;simp -implicitDefEqProofs only[go_sem,seval];exact rk;refine Zs ?_;have dk2:=dk.2
  have fk2:Zla nx s0 (out.l.flatMap (m.p.walkG fu path))=if(nx sk (path++[tt],-1)).1=true then Zla nx (nx sk (path++[tt],-1)).2 ((out.l.drop (k+1)).flatMap (m.p.walkG fu path))else(false,(nx sk (path++[tt],-1)).2):=fk
  generalize nx sk (path++[tt],-1)=r at hR2 dk2 fk2⊢;obtain⟨bb,s2⟩:=r;cases bb;refine Z ?_;rw[fk2];exact⟨.inl rfl,hR2⟩;refine Zf w1 ?_;exact hL _ ⟨hk1,(s2,H2),⟨dk2 rfl,hR2,fk2⟩,Zva ⟨rfl,rfl,rfl,rfl,zp,zp,zp,trivial⟩ trivial rfl⟩;have hke:k=out.l.length:=zo;have hlt:decide ((k:Int)<(out.l.length:Int))=false:=zF;rw[hke,List.drop_length]at fk;refine Zf hlt ?_;refine Z ?_;rw[fk];refine⟨.inl rfl,?_⟩
  show R sk _
  refine Zs ?_;exact rk
end Go.Hs
end

section
namespace Go.Hs
open Go.Proofs
set_option maxRecDepth 10000
set_option maxHeartbeats 2000000
theorem Z8t(G:Nat->V)(b c d e f g:Col)(m:MdM)(x:IxM)(v:Int)(p:Sl Int):InSp Tryz.prog G 116 [wkV b c d e f g m x,.int .i64 v,Za .new 1 (V.int .i64) p] (Zfa Zk [(63,.dead),(64,.dead),(65,.dead)])
  (λw H'=>∃ g3 g4 g5,w=.func (.func 180) [] [.ptr 63 g3 0,.ptr 64 g4 0,.ptr 65 g5 0]/\H' 63=.cells .new g3 0 [wkV b c d e f g m x]/\H' 64=.cells .new g4 0 [.int .i64 v]/\H' 65=.cells .new g5 0 [Za .new 1 (V.int .i64) p]):=by
 refine Z3a 60 8 [.tmp 6] Tryz.func116 rfl rfl rfl rfl λX=>?_;simp only[Zfa];refine Z ?_;intro g3 g4 g5;refine Z ?_;exact⟨g3,g4,g5,rfl,zr,zr,zr⟩
theorem Zb5(G:Nat->V)(hG:GOk G)(b c d e f g:Col)(m:MdM)(x:IxM)(hx:IxP m.p x)(hw:m.p.ways.length<100000)(hr:∀ t:Int,0<=t->t<m.p.ways.length->0<=m.p.tg t/\m.p.tg t<m.p.vertices.length)
  (t:Int) (t0:0<=t) (t1:t<m.p.ways.length) (g3 g4 g5:Nat) (H:Heap) (h3:H 63=.cells .new g3 0 [wkV b c d e f g m x]) (h4:H 64=.cells .new g4 0 [.int .i64 (m.p.tg t)]) (h5:H 65=.cells .new g5 0 [Za .new 1 (V.int .i64) (.mk false [t])]):
  ItSp Tryz.prog G 100 180 [.ptr 63 g3 0,.ptr 64 g4 0,.ptr 65 g5 0] H encW (m.p.waysL t):=by
 refine Zdc .plain 0 10 4 [] Tryz.func180 λX ty cl σ R dom nx s0 hy hd hR _=>?_;obtain⟨tg0,tg1⟩:=hr _ t0 t1;refine AW.weak (Zva (lo:=100) (B:=H) (l:=[(0,.func ty [] cl),(1,.ptr 63 g3 0),(2,.ptr 64 g4 0),(3,.ptr 65 g5 0)]) (m:=[(63,.cells .new g3 0 [wkV b c d e f g m x]),(64,.cells .new g4 0 [.int .i64 (m.p.tg t)]),(65,.cells .new g5 0 [Za .new 1 (V.int .i64) (.mk false [t])])]) ⟨rfl,rfl,rfl,rfl,trivial⟩ ⟨h3,h4,h5,trivial⟩ rfl) ?_;refine Zrb [4] zk (by rfl) ?_;simp -implicitDefEqProofs only[go_sem,seval,Z7y];refine⟨_,rfl,Zzm 100 (Nat.le_refl _) (walk_yf G hG m x hx hw hr (m.p.ways.length+1-[t].length) [t] (m.p.tg t) b c d e f g _ tg0 tg1 (List.pairwise_singleton ..) ?_ (Nat.le_refl _)) zk (λX' hle=>hy.at hle) s0 rfl ?_ hd ?_ (λH2 hR2 _=>?_) zk (n:=4) rfl zp (λ_ _ _=>trivial)⟩;intro t' ht;rw[List.mem_singleton]at ht;subst ht;exact⟨t0,t1⟩;simp -implicitDefEqProofs only[go_sem,seval];simp -implicitDefEqProofs only[go_sem,seval];exact hR;refine Z ?_;exact⟨_,rfl,.inr trivial,hR2⟩
end Go.Hs
end
