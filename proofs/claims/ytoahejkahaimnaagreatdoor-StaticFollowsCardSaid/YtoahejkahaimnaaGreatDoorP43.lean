/- A part. No condition. -/
import Derived.Test.YtoahejkahaimnaaGreatDoorP41
import Derived.Test.YtoahejkahaimnaaGreatDoorP42
set_option linter.all false
section
namespace Go.Hs
open Go.Proofs
set_option maxRecDepth 100000
def Pk(s:Sg):V:=.agg [.str s.text,.int .i64 s.level,.int .i64 s.parts]
theorem Mo(s:Sg):Pk s=.agg [.str s.text,.int .i64 s.level,.int .i64 s.parts]:=rfl
theorem Znh(s:Sg):(Pk s).cells.length=3:=rfl
def tabC:List V:=flat (tabL.map Pk)
theorem Z7e(op:Nat)(h:op<23)(k:Nat)(a:k<3):tabC[op*3+k]?=((Pk (tabL.getD op ⟨[],0,0⟩)).cells)[k]? := by
 match k,a with
 |0,_=>exact match op,h with
  |0,_=>rfl
  |1,_=>rfl
  |2,_=>rfl
  |3,_=>rfl
  |4,_=>rfl
  |5,_=>rfl
  |6,_=>rfl
  |7,_=>rfl
  |8,_=>rfl
  |9,_=>rfl
  |10,_=>rfl
  |11,_=>rfl
  |12,_=>rfl
  |13,_=>rfl
  |14,_=>rfl
  |15,_=>rfl
  |16,_=>rfl
  |17,_=>rfl
  |18,_=>rfl
  |19,_=>rfl
  |20,_=>rfl
  |21,_=>rfl
  |22,_=>rfl
  |n+23,h=>absurd h zo
 |1,_=>exact match op,h with
  |0,_=>rfl
  |1,_=>rfl
  |2,_=>rfl
  |3,_=>rfl
  |4,_=>rfl
  |5,_=>rfl
  |6,_=>rfl
  |7,_=>rfl
  |8,_=>rfl
  |9,_=>rfl
  |10,_=>rfl
  |11,_=>rfl
  |12,_=>rfl
  |13,_=>rfl
  |14,_=>rfl
  |15,_=>rfl
  |16,_=>rfl
  |17,_=>rfl
  |18,_=>rfl
  |19,_=>rfl
  |20,_=>rfl
  |21,_=>rfl
  |22,_=>rfl
  |n+23,h=>absurd h zo
 |2,_=>exact match op,h with
  |0,_=>rfl
  |1,_=>rfl
  |2,_=>rfl
  |3,_=>rfl
  |4,_=>rfl
  |5,_=>rfl
  |6,_=>rfl
  |7,_=>rfl
  |8,_=>rfl
  |9,_=>rfl
  |10,_=>rfl
  |11,_=>rfl
  |12,_=>rfl
  |13,_=>rfl
  |14,_=>rfl
  |15,_=>rfl
  |16,_=>rfl
  |17,_=>rfl
  |18,_=>rfl
  |19,_=>rfl
  |20,_=>rfl
  |21,_=>rfl
  |22,_=>rfl
  |n+23,h=>absurd h zo
theorem Zoz(op:Nat)(h:op<23):tabC[op*3+1]?=some (.int .i64 (lvl op)):=by rw[Z7e op h 1 zd]<;>rfl
theorem Fm:tabC.length=69:=rfl
theorem Zaa(f:Col->Col):(V.agg tabC).recol f=.agg tabC:=by
 have:Yt f tabC=tabC:=by
  rw[Yh]
  have:∀ v∈tabC,v.recol f=v:=by
   intro v b;unfold tabC flat at b;rw[List.mem_flatMap]at b;obtain⟨a,c,b⟩:=b;obtain⟨s,_,rfl⟩:=List.mem_map.1 c;simp only[Mo,V.cells,List.mem_cons,List.not_mem_nil,or_false]at b
   rcases b with rfl|rfl|rfl<;>rfl
  exact(List.map_congr_left this).trans (List.map_id _)
 rw[V.recol,this]
theorem Fr:∀ (c l:List V) (off:Nat),off+c.length<=l.length->Hs.setAt l off c=l.take off++c++l.drop (off+c.length)
 |[],l,off,_=>by simp[Hs.setAt]
 |v::r,l,off,h=>by
  simp only[List.length_cons]at h;rw[Hs.setAt,Fr r (l.set off v) (off+1) (by rw[List.length_set];omega)]
  have b:(l.set off v).take (off+1)=l.take off++[v]:=by
   rw[List.take_add_one,List.getElem?_set_self zo,List.take_set_of_le (Nat.le_refl _)]<;>rfl
  have a:(l.set off v).drop (off+1+r.length)=l.drop (off+(r.length+1)):=by
   rw[List.drop_set_of_lt zo]
   congr 1;omega
  rw[b,a];simp
theorem Bp{l c:List V}(h:c.length=l.length):Hs.setAt l 0 c=c:=by
 rw[Fr c l 0 zo,h];simp
theorem J4(l:List V)(h:l.length=69):Hs.setAt l 0 tabC=tabC:=Bp (by rw[h]<;>rfl)
theorem Oz(G:Nat->V)(a:Y6 G):Spec Tryz.prog G 276 [] Zi (λv _=>v=.agg tabC):=by
 refine Zo 0 24 [.cell 0 320] Tryz.func276 λX=>?_;refine Z1 ?_;intro b;exact Zr
structure FnG(G:Nat->V)(f:FuncId)(cap:List V)(p:Sg->Bool):Prop where
 en:Z5 Tryz.prog f=true
 rc:cap.map (V.recol Col.ent)=cap
 sp:∀ s:Sg,Spec Tryz.prog G f (Pk s::cap) Zi (λv _=>v=.bool (p s))
theorem Z2f(f:Col->Col)(s:Sg):(Pk s).recol f=Pk s:=by simp only[Mo,Xy,List.map_cons,List.map_nil,Xf,Vk]
theorem J5(G:Nat->V)(j:Y6 G)(c:Col)(s:Sl Sg)(m:s.l.length<1000000){f:FuncId}{cap:List V}{p:Sg->Bool}(e:FnG G f cap p):
  Spec Tryz.prog G 304 [Za c 3 Pk s,.func (.func f) [] cap] Zi (λv _=>v=.int .i64 (Qf p s.l)):=by
 refine Zo 0 19 [.tmp 4] Tryz.func304 λX=>?_;refine Z1 ?_;refine Z1 ?_;refine AW.block ?_
 refine Yf s.l.length (λk (_:Unit)=>st [(0,Za c 3 Pk s),(1,.func (.func f) [] cap),(7,.int .i64 s.l.length),(8,.int .i64 k)] []) (λk _=>∀ y∈s.l.take k,p y=false) 0 () (Nat.zero_le _) zS
  (Weak.st zp zp) ?_
 intro k _ n d o g;refine Z1 ?_;refine Z4 ?_;refine Zm rfl (λi=>?_) (λi=>?_);have a:k<s.l.length:=zu i;have b:=List.getElem?_eq_getElem a;generalize s.l[k]=x at b;refine Z1 ?_;refine Xc (zi b @Mo) ?_;refine CallA.pure j e.en ?_;simp only[List.map_cons,e.rc,<- Mo,Z2f];refine(e.sp x).mono ?_;rintro _ _ rfl;refine Zs ?_;refine Zm rfl (λh=>?_) (λh=>?_);refine Z ?_;rw[V3 b d h];refine Z1 ?_;refine g _ ⟨a,(),U1 b d h,Weak.st zw zp⟩
 have a:k=s.l.length:=by simp at i;omega
 refine Z ?_;rw[a,List.take_length]at d;rw[V4 d]
theorem Z9t(G:Nat->V)(e:Y6 G)(t:List UInt8)(p:Int)(s:Sg):Spec Tryz.prog G 305 [Pk s,.view .old (.str t),.view .old (.int .i64 p)] Zi (λv _=>v=.bool (Zbn t p s)):=by
 refine Zo 0 20 [.tmp 4] Tryz.func305 λX=>?_;simp only[Mo];refine Yo λK a=>AW.region zk ?_;refine Zs ?_;intro f;refine a _ ?_
 try clear a K
 unfold Zbn
 cases d:(s.text==t)<;>cases c:(s.parts==p)<;>cases b:(s.text==[])<;>((refine Yo λK a=>AW.region zk ?_;simp -implicitDefEqProofs only[go_sem,seval,bne,d,c,b];refine a _ ?_;clear a K);(refine AW.ret ?_;refine Zs ?_;refine Va ?_);rfl)
theorem fOf1{G:Nat->V}(a:Y6 G)(t:List UInt8)(p:Int):FnG G 305 [.view .old (.str t),.view .old (.int .i64 p)] (Zbn t p):=⟨zk,rfl,Z9t G a t p⟩
theorem Z31(t:List UInt8)(p:Int):Qf (Zbn t p) tabL=match ofI t p with|some i=>(i:Int)|none => -1:=rfl
def encOf(o:Nat×Bool):V:=.tuple [.int .u8 o.1,.bool o.2]
theorem Z80{t:List UInt8}{p:Int}{i:Nat}(h:ofI t p=some i):i<23:=(List.findIdx?_eq_some_iff_getElem.1 h).1
theorem Fc(G:Nat->V)(b:Y6 G)(t:List UInt8)(p:Int):Spec Tryz.prog G 278 [.str t,.int .i64 p] Zi (λv _=>v=encOf (Ev t p)):=by
 refine Zo 0 17 [.tmp 4,.tmp 5] Tryz.func278 λX=>?_;refine Z1 ?_;intro u r;refine Z1 ?_;refine Zn b ?_ (s:=(Oz G b));refine Xw (zi @Zaa (zi @Fm @Nat.le_refl)) ?_;intro d;rw[J4 _ ?hl]
 case hl=>rfl
 refine Z4<|S9 0 zk rfl rfl ?_
 simp -implicitDefEqProofs only[go_sem,seval,List.take_zero];refine⟨_,Ci Tryz.underlying320 zk (ob:=6) (g:=d) (m:=3) (c:=.new) (fz:=0) (cs:=tabC) zp zp zd,?_⟩;refine CallA.bor b [Za .old 3 Pk (.mk false tabL),.func (.func 305) [] [.view .old (.str t),.view .old (.int .i64 p)]] zk ⟨?_,Z4l ⟨?_,?_,trivial⟩,trivial⟩ ?_
 exact Rd.msl (off:=0) (n:=23) (l:=tabL) (f:=Pk) (f':=Pk) (g:=d) (fz:=0) (c:=.new) zp Znh (λx y a=>by
  simp only[Mo,V.cells,List.mem_cons,List.not_mem_nil,or_false]at a
  rcases a with rfl|rfl|rfl
  exact .str _;exact .int _ _
  exact .int _ _) (Z2f _) zd
 exact Rd.ptr (v:=.str t) (c:=.new) (fz:=0) zp (by intro y a;simp[V.cells]at a;subst a;exact .str _) zp;exact Rd.ptr (v:=.int .i64 p) (c:=.new) (fz:=0) zp (by intro y a;simp[V.cells]at a;subst a;exact .int _ _) zp;refine(J5 G b _ (.mk false tabL) zd (fOf1 b t p)).mono ?_;rintro _ _ rfl;refine⟨.int _ _,?_⟩;refine Zs ?_;have j:=Z31 t p;unfold Ev
 show AW _ _ _ _ { τ := Z3 _ 7 (.int .i64 (Qf (Zbn t p) tabL)),H:=_ }
 rw[j]
 cases h:ofI t p with
 |none=>
  exact Zr
 |some i=>
  have q:=Z80 h;refine AW.weak (Weak.st (l:=[(7,.int .i64 i)]) (m:=[]) zp zp) ?_
  have o:((0:Int)>(i:Int))=False:=by rw[eq_iff_iff,iff_false];omega
  have e:IntKind.u8.wrap (i:Int)=i:=by
   unfold IntKind.wrap;simp[IntKind.signed,IntKind.bits];omega
  have k:decide ((i:Int)>=0)=true:=zT;exact Zq (zi o (zi e k))
end Go.Hs
end

section
namespace Go.Hs
open Go.Proofs
set_option maxRecDepth 10000
def Y4(n:XN):V:=.agg [.int .u8 n.op,.int .i64 n.num,.str n.name,.int .i64 n.a,.int .i64 n.b,.int .i64 n.c]
theorem Uc(n:XN):Y4 n=.agg [.int .u8 n.op,.int .i64 n.num,.str n.name,.int .i64 n.a,.int .i64 n.b,.int .i64 n.c]:=rfl
theorem No(n:XN):(Y4 n).cells.length=6:=rfl
theorem Vs(t:Tk):Wi t=.agg [.int .u8 t.kind,.str t.text,.int .i64 t.pos]:=rfl
theorem O8(f:Col->Col)(n:XN):(Y4 n).recol f=Y4 n:=by simp only[Uc,Xy,List.map_cons,List.map_nil,Xf,Vk]
theorem Zc0(f:Col->Col)(t:Tk):(Wi t).recol f=Wi t:=by simp only[Vs,Xy,List.map_cons,List.map_nil,Xf,Vk]
@[go_sem] theorem W9(g:Col->Col)(c:Col)(s:Sl Tk):(Za c 3 Wi s).recol g=Za (g c) 3 Wi s:=Wd g c 3 (Zc0 g) s
@[go_sem] theorem Wc(g:Col->Col)(c:Col)(s:Sl XN):(Za c 6 Y4 s).recol g=Za (g c) 6 Y4 s:=Wd g c 6 (O8 g) s
def Cq(NO:Nat)(tl:List V)(sl:Sl Tk)(g gx:Nat)(r:RS):AObj:=.cells .any g 0 (Za .any 3 Wi sl::.int .i64 r.i::grown NO gx 6 r.nodes::.int .i64 r.e::tl)
def Ck(gx:Nat)(ns:List XN):AObj:=grownC .any gx Y4 ns
theorem Vl(c:Nat)(a:List V)(b:Sl Tk)(g gx:Nat)(r:RS):Cq c a b g gx r=.cells .any g 0 (Za .any 3 Wi b::.int .i64 r.i::grown c gx 6 r.nodes::.int .i64 r.e::a):=rfl
def RdS(NO:Nat)(tl:List V)(G:Nat->V)(f:FuncId)(args:List V)(sl:Sl Tk)(g:Nat)(r:RS)(v:V)(r':RS):Prop:=
 ∀ gx,Spec Tryz.prog G f (.ptr 8 g 0::args) (Z6 Zi [(8,Cq NO tl sl g gx r),(NO,Ck gx r.nodes)]) (λb a=>b=v/\∃ gx',a 8=Cq NO tl sl g gx' r'/\a NO=Ck gx' r'.nodes)
theorem RdS.call{a:Nat}{b:List V}{G:Nat->V}(y:Y6 G){f:FuncId}{args args':List V}{d:Sl Tk}{g gx:Nat}{r r':RS}{v:V}(h:RdS a b G f args' d g r v r'){H:Heap}{K:V->Heap->Prop}
  (j:Z5 Tryz.prog f=true) (i:∀ F:Col->Col,b.map (V.recol F)=b) (t:8≠a) (c:args.map (V.recol Col.ent)=args') (s:v.recol Col.bk=v)
  (z:H 8=Cq a b d g gx r) (x:H a=Ck gx r.nodes)
  (u:∀ gx',K v (Z6 H [(8,Cq a b d g gx' r'),(a,Ck gx' r'.nodes)])):
  CallA Tryz.prog G f (.ptr 8 g 0::args) H K:=by
 have n:∀ (F:Col->Col) gx r,F .any=.any->(Cq a b d g gx r).recol F=Cq a b d g gx r:=by
  intro F gx r k;simp only[Vl,recol_cells,List.map_cons,Tn,W9,Xf,k,i]
 have m:∀ (F:Col->Col) gx e,F .any=.any->(Ck gx e).recol F=Ck gx e:=by
  intro F gx e k;rw[Ck,Z7a F .any gx Y4 Y4 (O8 F),k]
 refine CallA.hand y [(8,Cq a b d g gx r),(a,Ck gx r.nodes)] j ?_ ?_;intro p l;simp only[List.mem_cons,List.not_mem_nil,or_false]at l
 rcases l with rfl|rfl
 rw[z,n _ _ _ rfl];rw[x,m _ _ _ rfl]
 have w:(V.ptr 8 g 0::args).map (V.recol Col.ent)=.ptr 8 g 0::args':=by rw[List.map_cons,Mc,c]
 rw[w];refine(h gx).mono ?_;rintro _ A ⟨rfl,gx',q,o⟩;simp only[List.map_cons,List.map_nil,q,o,n _ _ _ Zjb,m _ _ _ Zjb,s];exact u gx'
theorem Xr{b:Nat}{c:List V}{G:Nat->V}(n:Y6 G){f:FuncId}{args args':List V}{d:Sl Tk}{g gx:Nat}{r r':RS}{v:V}(h:RdS b c G f args' d g r v r'){H:Heap}{K:V->Heap->Prop}
  (l:∀ gx',K v (Z6 H [(8,Cq b c d g gx' r'),(b,Ck gx' r'.nodes)])) (j:Z5 Tryz.prog f=true:=by kernel_rfl) (e:∀ F:Col->Col,c.map (V.recol F)=c:=by exact λF=>rfl) (i:8≠b:=by decide)
  (a:args.map (V.recol Col.ent)=args':=by exact zx) (k:v.recol Col.bk=v:=by exact zm) (o:H 8=Cq b c d g gx r:=by exact zr) (m:H b=Ck gx r.nodes:=by exact zr):
  CallA Tryz.prog G f (.ptr 8 g 0::args) H K:=RdS.call n h j e i a k o m l
structure TkOk(l:List Tk):Prop where
 len:l.length<100000
 text:∀ t∈l,t.text.length<100000
theorem Zbo{l:List Tk}{i:Nat}{t:Tk}(h:l[i]?=some t):Ym l i=if(Rh t.text:Int)=t.kind then t else⟨0,[],0⟩:=by unfold Ym;rw[h]
theorem Zco{l:List Tk}{i:Nat}(h:l.length<=i):Ym l i=⟨0,[],0⟩:=by unfold Ym;rw[List.getElem?_eq_none h]
theorem Lc(G:Nat->V)(n:GExp G)(a:Sl Tk)(q:TkOk a.l)(g:Nat)(r:RS)(s:r.i<1000000):RdS 1031 [.func (.func 259) [] []] G 277 [] a g r (Wi (Ym a.l r.i)) r:=by
 have e:=n.ok;intro h;refine Zo 1000 50 [.cell 2 238] Tryz.func277 λX=>?_;simp only[Z6,Vl];refine Z1 ?_;intro u;refine Z4 ?_
 by_cases m:r.i<a.l.length
 have f:decide ((r.i:Int)<a.l.length)=true:=zT;have c:=List.getElem?_eq_getElem m;have p:=q.text _ (List.getElem_mem m);generalize a.l[r.i]=t at c p;have b:=Zbo c
 have k:Gc Tryz.prog G 146 [.str t.text] (.int .u8 (Rh t.text)):=⟨zk,by
  refine Zs ?_;refine(Sz G n t.text zo).mono ?_;rintro _ _ rfl
  rfl⟩
 by_cases d:(Rh t.text:Int)=t.kind
 rw[if_pos d]at b;have j:((Rh t.text:Int)==t.kind)=true:=zu d
 refine Z4<|Zp ⟨λi=>if i=22 then .int .u8 (Rh t.text)else .top,λ_=>.pure⟩ zk e zk zk ?_
 refine Xw (zi f (zi c (zi @Vs j))) ?_;refine⟨k,?_⟩;refine Zm rfl (λo=>?_) (λo=>?_);refine Ha (zi c @Vs) e ?_;refine Z ?_;exact⟨by rw[b]<;>rfl,h,zp,zp⟩;cases o;rw[if_neg d]at b;have j:((Rh t.text:Int)==t.kind)=false:=zu d
 refine Z4<|Zp ⟨λi=>if i=22 then .int .u8 (Rh t.text)else .top,λ_=>.pure⟩ zk e zk zk ?_
 refine Xw (zi f (zi c (zi @Vs j))) ?_;refine⟨k,?_⟩;refine Wx rfl ?_;refine Z ?_;exact⟨by rw[b]<;>rfl,h,zp,zp⟩;have f:decide ((r.i:Int)<a.l.length)=false:=zF;have b:=Zco (l:=a.l) (i:=r.i) zo;refine Ha f e ?_;refine Wx rfl ?_;refine Z ?_;exact⟨by rw[b]<;>rfl,h,zp,zp⟩
theorem Pv(G:Nat->V)(d:Y6 G)(a:Sl Tk)(g:Nat)(r:RS)(c:r.nodes.length<1000000):RdS 1031 [.func (.func 259) [] []] G 279 [] a g r (.int .i64 r.last) r:=by
 intro b;refine Zo 1000 9 [.tmp 2] Tryz.func279 λX=>?_;simp only[Z6,Vl];refine Z ?_;exact⟨by rw[W0 zo zo]<;>rfl,b,zp,zp⟩
theorem Zha{l:List Int}(h:l.length<=3):setAt [V.int .i64 (-1),V.int .i64 (-1),V.int .i64 (-1)] 0 (l.map (V.int .i64))=[V.int .i64 (l.getD 0 (-1)),V.int .i64 (l.getD 1 (-1)),V.int .i64 (l.getD 2 (-1))]:=by
 match l,h with
 |[],_=>rfl
 |[_],_=>rfl
 |[_,_],_=>rfl
 |[_,_,_],_=>rfl
theorem Dj(k:IntKind)(l:List Int):flat (l.map (V.int k))=l.map (V.int k):=by
 induction l with
 |nil=>rfl
 |cons x r ih=>unfold flat at ih⊢;rw[List.map_cons,List.flatMap_cons,ih]<;>rfl
def Bw(n:XN)(ps:List Int):XN:={ n with a:=ps.getD 0 (-1),b:=ps.getD 1 (-1),c:=ps.getD 2 (-1) }
theorem N7(G:Nat->V)(t:Y6 G)(h:Sl Tk)(g:Nat)(r:RS)(z:r.nodes.length<1000000)(n:XN)(c:Col)(ps:Sl Int)(d:ps.l.length<=3):
  RdS 1031 [.func (.func 259) [] []] G 280 [Y4 n,Za c 1 (V.int .i64) ps] h g r (.bool true) (r.put (Bw n ps.l)):=by
 intro j;refine Zo 1000 34 [.tmp 6] Tryz.func280 λX=>?_;simp only[Z6,Vl,Uc];refine Z1 ?_;intro v;refine Z1 ?_;intro u
 refine Z4<|L8 2 zk rfl rfl ?_
 simp -implicitDefEqProofs only[go_sem,seval,List.take_succ_cons,List.take_zero];refine⟨_,_,GivesE.copy Tryz.underlying45 zk (ob:=1008) (g:=u) (m:=1) (len:=3) (cs:=[.int .i64 (-1),.int .i64 (-1),.int .i64 (-1)]) (c:=.new) (fz:=0) (off:=0) (n:=ps.l.length) (xc:=ps.l.map (V.int .i64)) zp zp (by refine Zs ?_;exact congrArg (λx=>some (ps.l.length,x)) (Dj _ _)) d (Nat.le_refl _) zO,?_⟩;rw[Zha d];simp -implicitDefEqProofs only[go_sem,seval,List.drop_succ_cons,List.drop_zero];have e:Bw n ps.l={ n with a:=ps.l.getD 0 (-1),b:=ps.l.getD 1 (-1),c:=ps.l.getD 2 (-1) }:=rfl;generalize ps.l.getD 0 (-1)=s at e⊢;generalize ps.l.getD 1 (-1)=q at e⊢;generalize ps.l.getD 2 (-1)=p at e⊢
 refine AW.weak (Zw (λo=>o==1008) (l:=[(0,.ptr 8 g 0),(4,.ptr 1004 v 0),(7,.slice .new false 1 [.int .i64 s,.int .i64 q,.int .i64 p])])
  (m:=[(8,Cq 1031 [.func (.func 259) [] []] h g j r),(1031,Ck j r.nodes),(1004,.cells .new v 0 [.int .u8 n.op,.int .i64 n.num,.str n.name,.int .i64 n.a,.int .i64 n.b,.int .i64 n.c])]) ?_ ?_) ?_
 refine Zs ?_;refine⟨Fz.same _,Fz.same _,?_⟩;exact Xm (f:=V.int .i64) (l:=[s,q,p]) (m:=1) (g:=u) (fz:=0) (c:=.new) rfl zp (λ_=>rfl);simp only[Zy,Z2,and_true];exact⟨FzO.keep rfl zp,FzO.keep rfl zp,FzO.keep rfl zp⟩
 refine Z4<|Zp ⟨λ_=>.top,λi=>if i=2 then .lend else if i=5 then .lend else if i=8 then .lend else .pure⟩ zk t zk zk ?_
 refine Xw @Vl ?_;refine AW.later ?_;refine ZT t ?_;intro w;refine Z2p (f:=Y4) (l:=r.nodes) (l2:=[Bw n ps.l]) (g:=j) No rfl (by rw[e]<;>rfl) rfl zp (Yg zo zO) λy k=>?_;refine Zs ?_;refine Z1 ?_;refine AW.ret ?_;refine Zs ?_;refine⟨st [(6,.bool true)] [(8,Cq 1031 [.func (.func 259) [] []] h g k (r.put (Bw n ps.l))),(1031,Ck k (r.nodes++[Bw n ps.l]))],Zw (λ_=>false) ?_ ?_,?_⟩;refine Zs ?_;exact Fz.same _;simp only[Zy,Z2,and_true];exact⟨FzO.keep rfl zp,Zes (c:=y) rfl zp⟩;refine Zs ?_;exact Va ⟨rfl,k,zp,zp⟩
theorem Co(G:Nat->V)(s:List UInt8):Spec Tryz.prog G 318 [.str s,.str [48]] Zi (λv _=>v=.str (s.dropWhile (· == 48))):=by
 refine U7 λX a _ _ h=>?_;obtain⟨x,y,rfl,g,f⟩:=h.two;obtain⟨d,rfl,rfl⟩:=g.str_inv;obtain⟨b,rfl,c⟩:=f.str_inv
 obtain rfl:b=⟨#[48]⟩:=by
  obtain⟨⟨l⟩⟩:=b;simp at c;rw[c]
 refine(show Calls Tryz.prog 318 _ _ _ from Any.strings_TrimLeft_one Zpj d 48 zd X.w).mono ?_;rintro e w' ⟨rfl,rfl⟩;exact⟨_,_,rfl,RowKit.Below.refl _ _,.str _ _ rfl,by simp[Lib.trimLeftB]⟩
theorem Ld(G:Nat->V)(c:Y6 G)(b:Sl Tk)(g:Nat)(r:RS)(hi:r.i<1000000)(e:r.nodes.length<1000000)(op num:Int)(name:List UInt8)(x y z:Int):
  RdS 1031 [.func (.func 259) [] []] G 301 [Y4 ⟨op,num,name,x,y,z⟩] b g r (.bool true) (K8 r op num name).2:=by
 intro gx;refine Zo 1000 15 [.tmp 4] Tryz.func301 λX=>?_
 have d:IntKind.i64.wrap ((r.i:Int)+1)=((r.i+1:Nat):Int):=by rw[W0 zo zo];omega
 simp only[Z6,Vl,Uc];refine Z1 ?_;intro f;refine Xc d ?_;refine Z1 ?_;rw[<- Uc ⟨op,num,name,x,y,z⟩];refine Xr c (N7 G c b g r.adv e ⟨op,num,name,x,y,z⟩ .any .nil zd) (gx:=gx) λa=>?_;refine Zu ?_;refine Z ?_;exact⟨rfl,a,zp,zp⟩
theorem Jy(G:Nat->V)(n:GExp G)(a:Sl Tk)(q:TkOk a.l)(g:Nat)(r:RS)(hi:r.i<1000000)(w:List UInt8):
  RdS 1031 [.func (.func 259) [] []] G 302 [.str w] a g r (.bool (S4 a.l w r).1) (S4 a.l w r).2:=by
 have s:=n.ok;intro gx;refine Zo 1000 27 [.tmp 4] Tryz.func302 λX=>?_
 have o:IntKind.i64.wrap ((r.i:Int)+1)=((r.i+1:Nat):Int):=by rw[W0 zo zo];omega
 refine Z1 ?_;refine Z1 ?_;refine Xr s (Lc G n a q g r hi) (gx:=gx) λc=>?_;refine Zu ?_;refine Xw @Vs ?_;intro u
 have b:S4 a.l w r=if(Ym a.l r.i).kind=0\/(Ym a.l r.i).text≠w then(false,r.err 80)else(true,r.adv):=rfl
 generalize Ym a.l r.i=t at b⊢;obtain⟨k,t,p⟩:=t;simp only at b
 by_cases f:k=0
 have j:(k==0)=true:=zu f;rw[if_pos (.inl f)]at b;refine Xc j ?_;refine Zm rfl (λd=>?_) (λd=>?_);refine Zf @Vl ?_;rw[b];exact⟨rfl,c,zp,zp⟩;cases d;have j:(k==0)=false:=zu f
 by_cases e:t=w
 have m:(t==w)=true:=zu e;rw[if_neg (by rintro(h|h);exact f h;exact h e)]at b;refine Vp zk ?_;simp -implicitDefEqProofs only[go_sem,seval,j,bne,m];refine Wx rfl ?_;refine Zf (zi @Vl o) ?_;rw[b];exact⟨rfl,c,zp,zp⟩;have m:(t==w)=false:=zu e;rw[if_pos (.inr e)]at b;refine Vp zk ?_;simp -implicitDefEqProofs only[go_sem,seval,j,bne,m];refine Zm rfl (λd=>?_) (λd=>?_);refine Zf @Vl ?_;rw[b];exact⟨rfl,c,zp,zp⟩;cases d
theorem Zhu(t:List UInt8):(Sv t).length<=t.length+1:=by
 unfold Sv
 split
 simp;exact Nat.le_trans ((List.dropWhile_sublist _).length_le) (Nat.le_succ _)
theorem Aw(G:Nat->V)(m:GExp G)(h:Sl Tk)(g:Nat)(r:RS)(hi:r.i<1000000)(p:r.nodes.length<1000000)(t:List UInt8)(v:t.length<100000):
  RdS 1031 [.func (.func 259) [] []] G 300 [.str t] h g r (.bool (Rm r t).1) (Rm r t).2:=by
 have f:=m.ok;intro gx;refine Zo 1000 26 [.tmp 4] Tryz.func300 λX=>?_;refine Z1 ?_;refine Z1 ?_;refine Zc f ?_ (s:=(Co G t))
 have j:Sv t=if t.dropWhile (· == 48)=[]then[48]else t.dropWhile (· == 48):=rfl
 have b:Rm r t=if(Uj (Sv t)).2≠0 then(false,r.err (Uj (Sv t)).2)else K8 r 1 (Uj (Sv t)).1 []:=rfl
 have u:=Zhu t;refine Wr (fun(_:Unit)=>st [(0,.ptr 8 g 0),(1,.str (Sv t))] [(8,Cq 1031 [.func (.func 259) [] []] h g gx r),(1031,Ck gx r.nodes)]) (λ_=>True) (λw a=>?_) ?_;rw[j]at a;refine Z1 ?_;refine Zm rfl (λc=>?_) (λc=>?_);have c:t.dropWhile (· == 48)=[]:=zu c;rw[if_pos c]at a;refine Z1 ?_;exact a _ () trivial (Weak.st zp (by simp -implicitDefEqProofs only[go_sem,seval,Z6]));have c:¬ t.dropWhile (· == 48)=[]:=zu c;rw[if_neg c]at a;refine Z0 ?_;exact a _ () trivial (Weak.st zp (by simp -implicitDefEqProofs only[go_sem,seval,Z6]));intro _ _;generalize Sv t=s at u b⊢;refine Z1 ?_;refine Zn f ?_ (s:=(Zpg G m.toGNum s zo));generalize Uj s=q at b⊢;obtain⟨n,e⟩:=q;simp only at b;refine Xw @encR.eq_1 ?_;refine Z4 ?_
 by_cases d:e=0
 have l:(e==0)=true:=zu d;rw[if_neg (show ¬ e≠0 by simpa using d)]at b;refine Vp zk ?_;simp -implicitDefEqProofs only[go_sem,seval,bne,l];refine Wx rfl ?_;refine Z1 ?_;rw[<- Uc ⟨1,n,[],0,0,0⟩];refine Xr f (Ld G f h g r hi p 1 n [] 0 0 0) (gx:=gx) λk=>?_;refine Zu ?_;refine Z ?_;rw[b];exact⟨rfl,k,zp,zp⟩;have l:(e==0)=false:=zu d;rw[if_pos d]at b;refine Vp zk ?_;simp -implicitDefEqProofs only[go_sem,seval,bne,l];refine Zm rfl (λo=>?_) (λo=>?_);refine Zf @Vl ?_;rw[b];exact⟨rfl,gx,zp,zp⟩;cases o
def Zds(G:Nat->V)(sl:Sl Tk)(g:Nat)(inner:Inner)(i0:Nat):Prop:=
 ∀ n r,1<=n->n<=9->i0<r.i->Ju sl.l r->RdS 1031 [.func (.func 259) [] []] G 259 [.int .i64 n] sl g r (.bool (inner n r).1) (inner n r).2
theorem It{l:List Tk}(a:TkOk l)(i:Nat):(Ym l i).text.length<100000:=by
 unfold Ym
 split
 rename_i t h
 split
 exact a.text _ (List.mem_of_getElem? h);exact Nat.zero_lt_succ _;exact Nat.zero_lt_succ _
theorem Z7w(l:List Tk)(w:List UInt8)(r:RS):(S4 l w r).1=true->(S4 l w r).2=r.adv:=by
 unfold S4
 split
 intro h;cases h;exact λ_=>rfl
def Bt(l:List Tk)(inner:Inner):List (List UInt8)->List Int->RS->Bool×RS
 |[],parts,r=>andThen (S4 l Lf r) λb=>(true,b.put (Bw ⟨22,0,[],0,0,0⟩ parts))
 |w::ws,parts,r=>andThen (S4 l w r) λc=>andThen (inner 1 c) λa=>Bt l inner ws (parts++[a.last]) a
theorem C6(l:List Tk)(a:Inner)(r:RS):Ux l a r=Bt l a [wIf,Bi,Bj] [] r:=rfl
def brW:List (List UInt8):=[wIf,Bi,Bj]
theorem Ff(G:Nat->V)(Y:GExp G)(e:Sl Tk)(U:TkOk e.l)(g:Nat)(r:RS)(hr:Ju e.l r)(c:Inner)(Q:Zds G e g c r.i)(hb:Z0y e.l c):
  RdS 1031 [.func (.func 259) [] []] G 303 [] e g r (.bool (Ux e.l c r).1) (Ux e.l c r).2:=by
 have p:=Y.ok;have hTl:=U.len;intro gx;refine Zo 1000 37 [.tmp 2] Tryz.func303 λX=>?_;refine Z1 ?_;refine Z1 ?_;refine Z1 ?_;refine AW.block ?_
 refine Yf 3 (λk (x:Nat×Nat×List Int×RS)=>st [(0,.ptr 8 g 0),(3,grown 1027 x.1 1 x.2.2.1),(6,.agg (brW.map V.str)),(7,.int .i64 k)] [(1027,Yb x.1 (V.int .i64) x.2.2.1),(8,Cq 1031 [.func (.func 259) [] []] e g x.2.1 x.2.2.2),(1031,Ck x.2.1 x.2.2.2.nodes)])
  (λk x=>Ux e.l c r=Bt e.l c (brW.drop k) x.2.2.1 x.2.2.2/\Ju e.l x.2.2.2/\r.i<=x.2.2.2.i/\x.2.2.1.length=k) 0 (0,gx,[],r) (Nat.zero_le _) ⟨C6 _ _ _,hr,Nat.le_refl _,rfl⟩
  (Weak.st (by simp -implicitDefEqProofs only[go_sem,seval,List.map_cons,List.map_nil];exact⟨rfl,rfl⟩) (by simp -implicitDefEqProofs only[go_sem,seval,Z6];try rfl)) ?_
 rintro k ⟨gp,J,d,q⟩ hk ⟨j,E,C,v⟩ L2 W;have j:Ux e.l c r=Bt e.l c (brW.drop k) d q:=j;have E:Ju e.l q:=E;have C:r.i<=q.i:=C;have v:d.length=k:=v
 have D:q.i<1000000:=by have:=E.1;omega
 refine Z1 ?_;refine Z4 ?_;refine Zm rfl (λB=>?_) (λB=>?_)
 .have hk1:k<3:=by have B:decide ((k:Int)<3)=true:=B;simp at B;omega
  refine Z0 ?_;refine Z4 ?_;refine AW.block ?_
  obtain⟨w,M,L⟩:∃ w,(brW.map V.str)[k]?=some (.str w)/\brW.drop k=w::brW.drop (k+1):=by
   have F:k<brW.length:=hk1;exact⟨brW[k],by rw[List.getElem?_map,List.getElem?_eq_getElem F]<;>rfl,List.drop_eq_getElem_cons F⟩
  have H:(k:Int)<3:=zo;rw[L,Bt]at j;have m:=R8 e.l w q;have A:=Z7w e.l w q;have h:=Jy G Y e U g q D w;generalize S4 e.l w q=y at j m h A;obtain⟨b,t⟩:=y;simp only at m h A;refine Xc (zi M (zi H (zi @Int.natCast_nonneg @Nat.mul_one))) ?_;refine Z4 ?_
  cases b with
  |false=>
   rw[U6]at j;refine Z1 ?_;refine Xr p (h) (gx:=J) λgz=>?_;refine Zu ?_;refine Zm rfl (λI=>?_) (λI=>?_);refine Z ?_;rw[j];exact⟨rfl,gz,zr,zr⟩;cases I
  |true=>
   rw[Uy]at j;have R:=m.2 rfl;have n:=R.ok E
   have P:r.i<t.i:=by rw[A rfl];show r.i<q.i+1;omega
   have K:=Q 1 t zd zd P n;have u:=hb 1 t;generalize c 1 t=z at j K u;obtain⟨b,a⟩:=z;simp only at K u;have T:=u.ok n
   have S:a.nodes.length<1000000:=by have:=T.1;have:=T.2;omega
   cases b with
   |false=>
    rw[U6]at j;refine Xc @Vl ?_;refine Xr p (h) (gx:=J) λgz=>?_;refine Zu ?_;refine Xw @Vl ?_;refine Xr p (K) (gx:=gz) λs=>?_;refine Zu ?_;refine Zm rfl (λI=>?_) (λI=>?_);refine Z ?_;rw[j];exact⟨rfl,s,zr,zr⟩;cases I
   |true=>
    rw[Uy]at j;refine Xc @Vl ?_;refine Xr p (h) (gx:=J) λgz=>?_;refine Zu ?_;refine Xw @Vl ?_;refine Xr p (K) (gx:=gz) λs=>?_;refine Zu ?_;refine Wx rfl ?_;refine Z1 ?_;refine Xr p (Pv G p e g a S) (gx:=s) λgz3=>?_;refine Zu ?_;intro g26;refine X2 (f:=V.int .i64) (l:=d) (l2:=[a.last]) (g:=gp) (λ_=>rfl) rfl rfl rfl zp (Yg zo zO) λg27=>?_;refine Zs ?_;refine Z1 ?_;refine W _ ⟨hk1,(g27,gz3,d++[a.last],a),⟨j,T,?_,?_⟩,Weak.st zw zp⟩
    show r.i<=a.i
    have:=u.up;omega
    show(d++[a.last]).length=k+1
    rw[List.length_append,List.length_singleton,v]
 .have hk1:k=3:=by have B:decide ((k:Int)<3)=false:=B;simp at B;omega
  refine Z0 ?_;rw[hk1,show brW.drop 3=[]from rfl,Bt]at j;have m:=R8 e.l Lf q;have h:=Jy G Y e U g q D Lf;generalize S4 e.l Lf q=y at j m h;obtain⟨b,t⟩:=y;simp only at m h;have n:=(m.1).ok E
  have N:t.nodes.length<1000000:=by have:=n.1;have:=n.2;omega
  cases b with
  |false=>
   rw[U6]at j;refine Z1 ?_;refine Xr p (h) (gx:=J) λgz=>?_;refine Zu ?_;refine Z ?_;rw[j];exact⟨rfl,gz,zr,zr⟩
  |true=>
   rw[Uy]at j;refine Z1 ?_;refine Xr p (h) (gx:=J) λgz=>?_;refine Zu ?_;refine Wa (λo=>o==1027) [.ptr 8 g 0,Y4 ⟨22,0,[],0,0,0⟩,Za .new 1 (V.int .i64) (Zb d)] [(8,Cq 1031 [.func (.func 259) [] []] e g gz t),(1031,Ck gz t.nodes)] ⟨Fz.same _,Fz.same _,?_,trivial⟩ ?_ ?_;exact W7 (g:=gp) rfl zp (λ_=>rfl);simp only[Zy,Z2,and_true];exact⟨FzO.keep rfl zp,FzO.keep rfl zp⟩
   have O:(Zb d).l.length<=3:=by rw[Zl];omega
   refine Xr p (N7 G p e g t N ⟨22,0,[],0,0,0⟩ .old (Zb d) O) (gx:=gz) λs=>?_;refine Zu ?_;refine Z ?_;rw[j];exact⟨rfl,s,zr,zr⟩
theorem Zqe(G:Nat->V)(U:GExp G)(e:Sl Tk)(R:TkOk e.l)(g:Nat)(r:RS)(W:Ju e.l r)(d:Inner)(M:Zds G e g d r.i)(Y:Z0y e.l d):
  RdS 1031 [.func (.func 259) [] []] G 275 [] e g r (.bool (Qe e.l d r).1) (Qe e.l d r).2:=by
 have u:=U.ok;have hTl:=R.len
 have F:r.i<1000000:=by have:=W.1;omega
 have L:r.nodes.length<1000000:=by have:=W.2;omega
 have hw:IntKind.i64.wrap ((r.i:Int)+1)=((r.i+1:Nat):Int):=by rw[W0 zo zo];omega
 intro gx;refine Zo 1000 107 [.tmp 2] Tryz.func275 λX=>?_
 have j:Qe e.l d r=if(Ym e.l r.i).kind=1 then Rm r (Ym e.l r.i).text
  else if(Ym e.l r.i).kind=2 then K8 r 2 0 (Ym e.l r.i).text
  else if(Ym e.l r.i).kind=0 then(false,r.err 80)
  else if(Ev (Ym e.l r.i).text 1).2 then andThen (d 9 r.adv) λa=>(true,a.put ⟨(Ev (Ym e.l r.i).text 1).1,0,[],a.last,-1,-1⟩)
  else if(Ym e.l r.i).text=[40]then andThen (d 1 r.adv) (S4 e.l [41])
  else if(Ym e.l r.i).text=wIf then Ux e.l d r
  else if(Ev (Ym e.l r.i).text 0).2/\(Ym e.l r.i).kind=3 then K8 r (Ev (Ym e.l r.i).text 0).1 0 []
  else(false,r.err 80):=rfl
 have K:=It R r.i;have C:(Ym e.l r.i).kind≠0->Ju e.l r.adv:=λh=>(Bal.adv (Nf h)).ok W
 have w:(Ym e.l r.i).kind=0->(Ev (Ym e.l r.i).text 0).2=false:=λh=>by
  unfold Ev
  cases ho:ofI (Ym e.l r.i).text 0 with
  |none=>rfl
  |some i=>
   have P:=Ex e.l r.i;rw[h]at P
   rcases Z70 ho with ⟨h,_⟩|⟨h,_⟩
   rw[h]at P;exact absurd P zd;rw[h]at P;exact absurd P zd
 refine Z1 ?_;refine Z1 ?_;refine Xr u (Lc G U e R g r F) (gx:=gx) λq=>?_;refine Zu ?_;refine Xw @Vs ?_;intro g3;generalize Ym e.l r.i=t at j K C w⊢;obtain⟨k,t,p⟩:=t;simp only at j K C w;refine Z1 ?_;refine Zn u ?_ (s:=(Fc G u t 1));generalize Ev t 1=o1 at j⊢;obtain⟨N,one⟩:=o1;simp only at j;refine Xw @encOf.eq_1 ?_
 refine Wr (fun(_:Unit)=>st [(0,.ptr 8 g 0),(3,.ptr 1003 g3 0)] [(1003,.cells .new g3 0 [.int .u8 k,.str t,.int .i64 p]),(8,Cq 1031 [.func (.func 259) [] []] e g q r),(1031,Ck q r.nodes)])
  (λ_=>(k=0\/(k≠0/\k≠1/\k≠2/\one=false/\t≠[40]/\t≠wIf))) (λK1 T=>?_) ?_
 .refine AW.block ?_
  by_cases k1:k=1
  have e1:(k==1)=true:=zu k1;rw[if_pos k1]at j;refine Xc e1 ?_;refine Zm rfl (λE=>?_) (λE=>?_);refine Z1 ?_;refine Xr u (Aw G U e g r F L t K) (gx:=q) λn=>?_;refine Zu ?_;refine Z ?_;rw[j];exact⟨rfl,n,zr,zr⟩;cases E;have e1:(k==1)=false:=zu k1;rw[if_neg k1]at j;refine Xc e1 ?_;refine Wx rfl ?_
  try clear E
  by_cases k2:k=2
  have e2:(k==2)=true:=zu k2;rw[if_pos k2]at j;refine Xc e2 ?_;refine Zm rfl (λE=>?_) (λE=>?_);refine Z1 ?_;rw[<- Uc ⟨2,0,t,0,0,0⟩];refine Xr u (Ld G u e g r F L 2 0 t 0 0 0) (gx:=q) λn=>?_;refine Zu ?_;refine Z ?_;rw[j];exact⟨rfl,n,zr,zr⟩;cases E;have e2:(k==2)=false:=zu k2;rw[if_neg k2]at j;refine Xc e2 ?_;refine Wx rfl ?_
  try clear E
  by_cases A:k=0
  have e0:(k==0)=true:=zu A;refine Xc e0 ?_;refine Zm rfl (λE=>?_) (λE=>?_);refine Z0 ?_;exact T _ () (.inl A) (Weak.st zp zp);cases E;have e0:(k==0)=false:=zu A;rw[if_neg A]at j;have I:=C A;refine Xc e0 ?_;refine Wx rfl ?_
  try clear E
  refine Z1 ?_;refine Zm rfl (λh3=>?_) (λh3=>?_)
  .subst h3
   rw[if_pos rfl]at j;have H:=M 9 r.adv zd zd (Nat.lt_succ_self _) I;have v:=(Y 9 r.adv).ok I;generalize d 9 r.adv=x at H j v;obtain⟨b,a⟩:=x;simp only at H v
   have Q:a.nodes.length<1000000:=by have:=v.1;have:=v.2;omega
   refine Xc (zi @Vl hw) ?_
   cases b with
   |false=>
    refine Xc @Vl ?_;refine Xr u (H) (gx:=q) λn=>?_;refine Zu ?_;refine Z ?_;rw[j];exact⟨rfl,n,zr,zr⟩
   |true=>
    refine Xc @Vl ?_;refine Xr u (H) (gx:=q) λn=>?_;refine Zu ?_;refine Xr u (Pv G u e g a Q) (gx:=n) λz=>?_;refine Zu ?_;intro g58;refine Wa (λo=>o==1058) [.ptr 8 g 0,Y4 ⟨N,0,[],0,0,0⟩,.slice .new false 1 [.int .i64 a.last]] [(8,Cq 1031 [.func (.func 259) [] []] e g z a),(1031,Ck z a.nodes)] ⟨Fz.same _,Fz.same _,?_,trivial⟩ ?_ ?_;exact Xm (f:=V.int .i64) (l:=[a.last]) (m:=1) (g:=g58) (fz:=0) (c:=.new) rfl zp (λ_=>rfl);simp only[Zy,Z2,and_true];exact⟨FzO.keep rfl zp,FzO.keep rfl zp⟩;refine Xr u (N7 G u e g a Q ⟨N,0,[],0,0,0⟩ .old (.mk false [a.last]) (Nat.le_of_ble_eq_true rfl)) (gx:=z) λgx4=>?_;refine Zu ?_;refine Z ?_;rw[j];exact⟨rfl,gx4,zr,zr⟩
  subst h3;rw[if_neg zS]at j;refine Z1 ?_;refine Zm rfl (λJ=>?_) (λJ=>?_)
  .have J:t=[40]:=zu J
   rw[if_pos J]at j;have H:=M 1 r.adv zd zd (Nat.lt_succ_self _) I;have v:=(Y 1 r.adv).ok I;generalize d 1 r.adv=x at H j v;obtain⟨b,a⟩:=x;simp only at H v
   have hai:a.i<1000000:=by have:=v.1;omega
   refine Xc (zi @Vl hw) ?_
   cases b with
   |false=>
    refine Xc @Vl ?_;refine Xr u (H) (gx:=q) λn=>?_;refine Zu ?_;refine Z ?_;rw[j];exact⟨rfl,n,zr,zr⟩
   |true=>
    rw[Uy]at j;refine Xc @Vl ?_;refine Xr u (H) (gx:=q) λn=>?_;refine Zu ?_;refine Xr u (Jy G U e R g a hai [41]) (gx:=n) λz=>?_;refine Zu ?_;generalize S4 e.l [41] a=y at j⊢;obtain⟨b,a2⟩:=y
    cases b with
    |true=>
     refine Zs ?_;refine Z ?_;rw[j];exact⟨rfl,z,zr,zr⟩
    |false=>
     refine Zs ?_;refine Z ?_;rw[j];exact⟨rfl,z,zr,zr⟩
  have J:¬ t=[40]:=zu J;rw[if_neg J]at j;refine Z1 ?_;refine Zm rfl (λD=>?_) (λD=>?_)
  have D:t=wIf:=by
   have D:(t==[105,102])=true:=D;exact eq_of_beq D
  rw[if_pos D]at j;refine Z1 ?_;refine Xr u (Ff G U e R g r W d M Y) (gx:=q) λn=>?_;refine Zu ?_;refine Z ?_;rw[j];exact⟨rfl,n,zr,zr⟩
  have D:¬ t=wIf:=by
   have D:(t==[105,102])=false:=D;exact beq_eq_false_iff_ne.1 D
  refine Z0 ?_;exact T _ () (.inr ⟨A,k1,k2,rfl,J,D⟩) (Weak.st zp zp)
 rintro _ B
 have S:Qe e.l d r=if(Ev t 0).2/\k=3 then K8 r (Ev t 0).1 0 []else(false,r.err 80):=by
  rw[j]
  rcases B with A|⟨A,k1,k2,k3,k4,k5⟩
  have:=w A;subst A;rw[if_neg zd,if_neg zd,if_pos rfl,this,if_neg zS];rw[if_neg k1,if_neg k2,if_neg A,k3,if_neg zS,if_neg k4,if_neg k5]
 try clear j
 have j:=S
 try clear S w B
 refine Z1 ?_;refine Zn u ?_ (s:=(Fc G u t 0));generalize Ev t 0=o0 at j⊢;obtain⟨O,ok⟩:=o0;simp only at j;refine Xw @encOf.eq_1 ?_
 cases ok with
 |false=>
  rw[if_neg zS]at j;refine Z1 ?_;refine Wx rfl ?_;refine Zf @Vl ?_;rw[j];exact⟨rfl,q,zr,zr⟩
 |true=>
  by_cases k3:k=3
  have e3:(k==3)=true:=zu k3;rw[if_pos ⟨rfl,k3⟩]at j;refine Xc e3 ?_;refine Zm rfl (λh7=>?_) (λh7=>?_);refine Z1 ?_;rw[<- Uc ⟨O,0,[],0,0,0⟩];refine Xr u (Ld G u e g r F L O 0 [] 0 0 0) (gx:=q) λn=>?_;refine Zu ?_;refine Z ?_;rw[j];exact⟨rfl,n,zr,zr⟩;cases h7;have e3:(k==3)=false:=zu k3;rw[if_neg (λh=>k3 h.2)]at j;refine Xc e3 ?_;refine Wx rfl ?_;refine Zf @Vl ?_;rw[j];exact⟨rfl,q,zr,zr⟩
theorem Zmo(l:List Tk)(b:Inner)(n:Int)(m:Nat)(r:RS):Ni l b n (m+1) r=match Ky l r.i with
  |none=>(true,r)
  |some op=>if lvl op<n then(true,r)else andThen (b (lvl op+1) r.adv) λa=>Ni l b n m (a.put ⟨op,0,[],r.last,a.last,-1⟩):=rfl
theorem Z60{l:List Tk}{i:Nat}:((Ym l i).kind=0\/(Ev (Ym l i).text 2).2=false->Ky l i=none)/\((Ym l i).kind≠0->(Ev (Ym l i).text 2).2=true->Ky l i=some (Ev (Ym l i).text 2).1):=by
 unfold Ky Ev
 constructor
 rintro(h|h);rw[if_pos h]
 split
 rfl
 .cases a:ofI (Ym l i).text 2 with
  |none=>rfl
  |some op=>rw[a]at h;cases h
 .intro h h2
  rw[if_neg h]
  cases a:ofI (Ym l i).text 2 with
  |none=>rw[a]at h2;cases h2
  |some op=>rfl
theorem ofP_lt(t:List UInt8)(p:Int):(Ev t p).1<23:=by
 unfold Ev
 split
 rename_i h;exact Z80 h
 decide
theorem Zpe(G:Nat->V)(hE:GExp G)(d:Sl Tk)(hT:TkOk d.l)(g:Nat):∀ (f:Nat) (n:Int) (r:RS),1<=n->n<=9->d.l.length<f+r.i->Ju d.l r ->
  RdS 1031 [.func (.func 259) [] []] G 259 [.int .i64 n] d g r (.bool (Xv d.l f n r).1) (Xv d.l f n r).2:=by
 have w:=hE.ok;have hTl:=hT.len;intro f
 induction f with
 |zero=>intro n r _ _ hf hr;have:=hr.1;omega
 |succ f ih=>
 intro n r hn1 hn9 hf hr gx;have hin:∀ i0,r.i<=i0->Zds G d g (Xv d.l f) i0:=λi0 hi0 n' r' h1 B hi hr'=>ih n' r' h1 B zo hr';have L:=Te d.l f;have e:Xv d.l (f+1) n r=andThen (Qe d.l (Xv d.l f) r) (Ni d.l (Xv d.l f) n (d.l.length+1)):=rfl;generalize Xv d.l (f+1) n r=P at e⊢;refine Zo 1000 65 [.tmp 4] Tryz.func259 λX=>?_;have D:=Zqe G hE d hT g r hr _ (hin r.i (Nat.le_refl _)) L;have E:=D8 L r;generalize Qe d.l (Xv d.l f) r=y at e D E;obtain⟨b,q0⟩:=y;simp only at D E;refine Z1 ?_;refine Z4 ?_
 cases b with
 |false=>
  rw[U6]at e;refine Z1 ?_;refine Xr w (D) (gx:=gx) λO=>?_;refine Zu ?_;refine Zm rfl (λh2=>?_) (λh2=>?_);refine Z ?_;rw[e];exact⟨rfl,O,zr,zr⟩;cases h2
 |true=>
 rw[Uy]at e;have hq0:=E.ok hr;refine Z1 ?_;refine Xr w (D) (gx:=gx) λO=>?_;refine Zu ?_;refine Z1 ?_;refine Zn w ?_ (s:=(Oz G w));refine Xw (zi @Zaa (zi @Fm @Nat.le_refl)) ?_;intro g5;rw[J4 _ ?hl]
 case hl=>rfl
 refine AW.block ?_
 refine Vz (fun(x:Nat×Nat×RS)=>st [(0,.ptr 8 g 0),(1,.int .i64 n),(5,.ptr 1005 g5 0)] [(1005,.cells .new g5 0 tabC),(8,Cq 1031 [.func (.func 259) [] []] d g x.1 x.2.2),(1031,Ck x.1 x.2.2.nodes)])
  (λx=>P=Ni d.l (Xv d.l f) n x.2.1 x.2.2/\Ju d.l x.2.2/\r.i<=x.2.2.i/\d.l.length<x.2.1+x.2.2.i) (λx=>x.2.1) (O,d.l.length+1,q0) ⟨e,hq0,E.up,Nat.lt_add_right _ (Nat.lt_succ_self _)⟩
  (Weak.st zp zp) ?_
 try clear e
 rintro⟨gy,m,q⟩ ⟨e,F,T,hm⟩ L3 hL3
 replace e:P=Ni d.l (Xv d.l f) n m q:=e
 replace F:Ju d.l q:=F
 replace T:r.i<=q.i:=T
 replace hm:d.l.length<m+q.i:=hm
 obtain⟨m,rfl⟩:∃ m',m=m'+1:=⟨m-1,by have:=F.1;omega⟩
 have hqI:q.i<1000000:=by have:=F.1;omega
 have hqn:q.nodes.length<1000000:=by have:=F.1;have:=F.2;omega
 rw[Zmo]at e;have v:=Z60 (l:=d.l) (i:=q.i);have j:=ofP_lt (Ym d.l q.i).text 2;have R:=It hT q.i
 have I:∀ u,Ky d.l q.i=some u->1<=lvl u/\lvl u<=8:=λu h=>by have:=op_pos h;exact⟨this.2.2.1,this.2.2.2⟩
 have H:∀ u,Ky d.l q.i=some u->q.i<d.l.length:=λu h=>Zat h;refine Z1 ?_;refine Xr w (Lc G hE d hT g q hqI) (gx:=gy) λgz=>?_;refine Zu ?_;refine Xw @Vs ?_;intro g6;generalize Ky d.l q.i=oa at e v I H;generalize Ym d.l q.i=t at v j R⊢;obtain⟨k,t,p⟩:=t;simp only at v j R;refine Z1 ?_;refine Zn w ?_ (s:=(Fc G w t 2));generalize Ev t 2=o2 at v j⊢;obtain⟨u,ok⟩:=o2;simp only at v j;refine Xw @encOf.eq_1 ?_;have hlv:=Zoz u j;have U:(u:Int)<23:=zo;refine Xc (zi U (zi @Int.natCast_nonneg (zi hlv @Nat.zero_add))) ?_;refine Z4 ?_
 cases ok with
 |false=>
  rw[v.1 (.inr rfl)]at e;refine Z1 ?_;refine Zm rfl (λB=>?_) (λB=>?_);refine Z ?_;rw[e];exact⟨rfl,gz,zr,zr⟩;cases B
 |true=>
 by_cases hk:k=0
 have e1:(k==0)=true:=zu hk;rw[v.1 (.inl hk)]at e;refine Xc e1 ?_;refine Zm rfl (λB=>?_) (λB=>?_);refine Z ?_;rw[e];exact⟨rfl,gz,zr,zr⟩;cases B;have e1:(k==0)=false:=zu hk;have K:=v.2 hk rfl;rw[K]at e;simp only at e;obtain⟨hl1,hl8⟩:=I u K;have hil:=H u K;generalize lvl u=lv at e hl1 hl8⊢
 by_cases C:lv<n
 have e2:decide (lv<n)=true:=zu C;rw[if_pos C]at e;refine Xc (zi e1 e2) ?_;refine Zm rfl (λB=>?_) (λB=>?_);refine Z ?_;rw[e];exact⟨rfl,gz,zr,zr⟩;cases B;have e2:decide (lv<n)=false:=zu C;rw[if_neg C]at e;refine Xc (zi e1 e2) ?_;refine Z0 ?_
 have hw:IntKind.i64.wrap ((q.i:Int)+1)=((q.i+1:Nat):Int):=by rw[W0 zo zo];omega
 have Q:IntKind.i64.wrap (lv+1)=lv+1:=W0 zo zo;have J:Ju d.l q.adv:=(Bal.adv hil).ok F;have hc:=ih (lv+1) q.adv zo zo (by show d.l.length<f+(q.i+1);omega) J;have A:=L (lv+1) q.adv;generalize Xv d.l f (lv+1) q.adv=z at e hc A;obtain⟨b,a⟩:=z;simp only at hc A;have ha:=A.ok J;have haup:q.i+1<=a.i:=A.up
 have W:a.nodes.length<1000000:=by have:=ha.1;have:=ha.2;omega
 refine Z1 ?_;refine Xr w (Pv G w d g q hqn) (gx:=gz) λgz1=>?_;refine Zu ?_;refine Xc (zi @Vl hw) ?_;refine Z4 ?_
 cases b with
 |false=>
  rw[U6]at e;refine Xc (zi @Vl Q) ?_;refine Xr w (hc) (gx:=gz1) λN=>?_;refine Zu ?_;refine Zm rfl (λY=>?_) (λY=>?_);refine Z ?_;rw[e];exact⟨rfl,N,zr,zr⟩;cases Y
 |true=>
  rw[Uy]at e;refine Xc (zi @Vl Q) ?_;refine Xr w (hc) (gx:=gz1) λN=>?_;refine Zu ?_;refine Z1 ?_;refine Xr w (Pv G w d g a W) (gx:=N) λM=>?_;refine Zu ?_;intro g63;refine Wa (λo=>o==1063) [.ptr 8 g 0,Y4 ⟨u,0,[],0,0,0⟩,.slice .new false 1 [.int .i64 q.last,.int .i64 a.last]] [(8,Cq 1031 [.func (.func 259) [] []] d g M a),(1031,Ck M a.nodes),(1005,.cells .new g5 0 tabC)] ⟨Fz.same _,Fz.same _,?_,trivial⟩ ?_ ?_;exact Xm (f:=V.int .i64) (l:=[q.last,a.last]) (m:=1) (g:=g63) (fz:=0) (c:=.new) rfl zp (λ_=>rfl);simp only[Zy,Z2,and_true];exact⟨FzO.keep rfl zp,FzO.keep rfl zp,FzO.keep rfl zp⟩;refine Xr w (N7 G w d g a W ⟨u,0,[],0,0,0⟩ .old (.mk false [q.last,a.last]) (Nat.le_of_ble_eq_true rfl)) (gx:=M) λgz4=>?_;refine Zu ?_
  have S:Ju d.l (a.put ⟨u,0,[],q.last,a.last,-1⟩):=⟨ha.1,by
   have h1:=A.cnt;have h2:=F.2
   show(a.nodes++[_]).length<=a.i
   rw[List.length_append,List.length_singleton];have h3:a.nodes.length+(q.i+1)+0<=q.nodes.length+a.i:=h1
   omega⟩
  refine hL3 _ ⟨(gz4,m,a.put ⟨u,0,[],q.last,a.last,-1⟩),Nat.lt_succ_self _,⟨e,S,?_,?_⟩,Weak.st zp (by refine Zs ?_;exact⟨rfl,rfl⟩)⟩
  show r.i<=a.i
  omega
  show d.l.length<m+a.i
  omega
end Go.Hs
end

section
namespace Go.Hs
def nthP(l:List XN)(i:Int):Option XN:=if i<0 then none else l[i.toNat]?
def At(l:List XN)(x:X)(b:Nat):Prop:=∃ pre post,l=pre++x.row b++post/\pre.length=b
theorem X.row_top:∀ (x:X) (k:Int),∃ body,x.row k=body++[x.top k]/\body.length+1=x.size
 |.leaf op num name,k=>⟨[],rfl,rfl⟩
 |.un op a,k=>⟨a.row k,rfl,by rw[X.row_len];rfl⟩
 |.bin op a b,k=>⟨a.row k++b.row (k+a.size),rfl,by rw[List.length_append,X.row_len,X.row_len];rfl⟩
 |.ite a b c,k=>⟨a.row k++b.row (k+a.size)++c.row (k+a.size+b.size),rfl,by rw[List.length_append,List.length_append,X.row_len,X.row_len,X.row_len];rfl⟩
theorem At.top{l:List XN}{x:X}{b:Nat}(h:At l x b):nthP l ((b:Int)+x.size-1)=some (x.top b):=by
 obtain⟨pre,a,rfl,c⟩:=h;obtain⟨body,e,d⟩:=x.row_top b;unfold nthP;rw[if_neg (by omega)]
 have:((b:Int)+x.size-1).toNat=(pre++body).length:=by rw[List.length_append];omega
 simp_all
theorem At.get{l:List XN}{x:X}{b:Nat}(h:At l x b):l[b+x.size-1]?=some (x.top b):=by
 have:=h.top;unfold nthP at this;have a:=x.size_pos;rw[if_neg (by omega)]at this;rw[<- this];congr 1;omega
theorem At.un{l:List XN}{op:Int}{a:X}{b:Nat}(h:At l (.un op a) b):At l a b:=by
 obtain⟨pre,c,rfl,d⟩:=h;exact⟨pre,_,by simp only[X.row,List.append_assoc];rfl,d⟩
theorem At.bin{l:List XN}{op:Int}{x y:X}{b:Nat}(h:At l (.bin op x y) b):At l x b/\At l y (b+x.size):=by
 obtain⟨pre,a,rfl,c⟩:=h;refine⟨⟨pre,y.row (b+x.size)++[X.top (.bin op x y) b]++a,by simp only[X.row,List.append_assoc];rfl,c⟩,⟨pre++x.row b,[X.top (.bin op x y) b]++a,?_,by rw[List.length_append,X.row_len,c]⟩⟩;simp only[X.row,List.append_assoc];rfl
theorem At.ite{l:List XN}{x y z:X}{b:Nat}(h:At l (.ite x y z) b):At l x b/\At l y (b+x.size)/\At l z (b+x.size+y.size):=by
 obtain⟨pre,a,rfl,c⟩:=h;refine⟨⟨pre,y.row (b+x.size)++z.row (b+x.size+y.size)++[X.top (.ite x y z) b]++a,by simp only[X.row,List.append_assoc];rfl,c⟩,⟨pre++x.row b,z.row (b+x.size+y.size)++[X.top (.ite x y z) b]++a,?_,by rw[List.length_append,X.row_len,c]⟩,⟨pre++x.row b++y.row (b+x.size),[X.top (.ite x y z) b]++a,?_,by rw[List.length_append,List.length_append,X.row_len,X.row_len,c]⟩⟩
 all_goals(· simp only[X.row,List.append_assoc];rfl)
theorem Zs3(x:X):At (x.row 0) x 0:=⟨[],[],by simp,rfl⟩
end Go.Hs
end

section
namespace Go.Hs
open Go.Proofs
set_option maxRecDepth 10000
theorem Zlf(G:Nat->V)(q:Y6 G)(o n:Col)(a b:Sl Int)(ha:a.l.length<1000000000):
  Spec Tryz.prog G 282 [Za o 1 (V.int .i64) a,Za n 1 (V.int .i64) b] Zi (λv _=>v=.bool (a.l==b.l)):=by
 refine Zo 0 26 [.tmp 4] Tryz.func282 λX=>?_;refine Z1 ?_;refine Z1 ?_;refine Zm rfl (λf=>?_) (λf=>?_);refine Z ?_;simp at f⊢;intro e;rw[e]at f;exact f rfl;refine Z0 ?_
 have p:a.l.length=b.l.length:=by simp at f;omega
 refine Z1 ?_;refine AW.block ?_
 refine Yf a.l.length (λk (_:Unit)=>st [(0,Za o 1 (V.int .i64) a),(1,Za n 1 (V.int .i64) b),(12,.int .i64 a.l.length),(13,.int .i64 k)] []) (λk _=>a.l.take k=b.l.take k) 0 () (Nat.zero_le _) zS
  (Weak.st (by simp -implicitDefEqProofs only[go_sem,seval];try simp) zp) ?_
 intro k _ r h s i;refine Z1 ?_;refine Z4 ?_;refine Zm rfl (λj=>?_) (λj=>?_);refine Z0 ?_;have c:k<a.l.length:=zu j;have d:k<b.l.length:=zo;refine Z1 ?_
 refine Z4<|Zp ⟨λ_=>.top,λ_=>.pure⟩ zk q zk zk ?_
 simp -implicitDefEqProofs only[go_sem,seval,List.getElem?_eq_getElem c,List.getElem?_eq_getElem d];refine Zm rfl (λg=>?_) (λg=>?_);refine Z ?_;simp at g;simp;intro e;simp[e]at g;refine Z0 ?_;have m:a.l[k]=b.l[k]:=zu g;refine Z1 ?_;refine i _ ⟨c,(),?_,Weak.st (by refine Zs ?_;simp;exact W0 zo zo) zp⟩;rw[List.take_succ_eq_append_getElem c,List.take_succ_eq_append_getElem d,h,m];refine Z0 ?_
 have c:k=a.l.length:=by simp at j;omega
 refine Z ?_;subst c;rw[List.take_length,p,List.take_length]at h;simp[h]
theorem Zim(G:Nat->V)(r:GExp G)(n:XN)(u:n.name.length<100000):Spec Tryz.prog G 281 [Y4 n] Zi (λv _=>v=.bool (Sd n)):=by
 have w:=r.ok;refine Zo 0 43 [.tmp 2] Tryz.func281 λX=>?_
 have f:Sd n=if n.op<1\/n.op>22\/n.num<0 then false else if n.op=2 then n.num==0&&Rh n.name==2 else n.name==[]&&(n.op==1||n.num==0):=rfl
 obtain⟨e,num,name,a,b,c⟩:=n;simp only at u f;simp only[Uc];refine Yo λK d=>AW.region zk ?_;refine Zs ?_;intro o;refine d _ ?_
 try clear d K
 refine Wr (fun(_:Unit)=>st [(1,.ptr 1 o 0)] [(1,.cells .new o 0 [.int .u8 e,.int .i64 num,.str name,.int .i64 a,.int .i64 b,.int .i64 c])]) (λ_=>¬ (e<1\/e>22\/num<0)/\e≠2) (λx p=>?_) ?_;refine AW.block ?_
 by_cases i:e<1\/e>22\/num<0
 .rw[if_pos i]at f
  have t:∀ K:AS->Prop,(K (st [(1,.ptr 1 o 0),(3,.bool true)] [(1,.cells .new o 0 [.int .u8 e,.int .i64 num,.str name,.int .i64 a,.int .i64 b,.int .i64 c])]))->True:=λ_ _=>trivial
  cases l:decide (e<1)<;>cases k:decide (e>22)<;>cases j:decide (num<0)
  simp only[decide_eq_false_iff_not]at l k j
  rcases i with h|h|h
  exact absurd h l;exact absurd h k;exact absurd h j
  all_goals
   (refine Yo λK d=>AW.region zk ?_;refine Xw (zi l (zi k j)) ?_;refine d _ ?_;clear d K)
   refine Zm (b:=true) zp (λ_=>?_) (λh=>by cases h)
   (refine Yo λK d=>AW.region zk ?_;refine Zs ?_;refine d _ ?_;clear d K)
   (refine AW.ret ?_;refine Zs ?_;refine Va ?_)
   rw[f]
 .have l:decide (e<1)=false:=by rw[decide_eq_false_iff_not];exact λh=>i (.inl h)
  have k:decide (e>22)=false:=by rw[decide_eq_false_iff_not];exact λh=>i (.inr (.inl h))
  have j:decide (num<0)=false:=by rw[decide_eq_false_iff_not];exact λh=>i (.inr (.inr h))
  rw[if_neg i]at f;refine Yo λK d=>AW.region zk ?_;refine Xw (zi l (zi k j)) ?_;refine d _ ?_
  try clear d K
  refine Wx rfl ?_
  try clear h4
  refine Yo λK d=>AW.region zk ?_;refine Zs ?_;refine d _ ?_
  try clear d K
  refine Zm rfl (λg=>?_) (λg=>?_)
  .have g:e=2:=zu g
   rw[if_pos g]at f
   cases m:(num==0)with
   |false=>
    refine Yo λK d=>AW.region zk ?_;refine Xw m ?_;refine d _ ?_
    try clear d K
    refine Z ?_
    rw[f,m]<;>rfl
   |true=>
    refine Yo λK d=>AW.region zk ?_;refine Xw m ?_;refine Zc w ?_ (s:=(Sz G r name zo));refine d _ ?_
    try clear d K
    refine Z ?_;rw[f,m,Bool.true_and];generalize Rh name=z
    cases q:(z==2)with
    |true=>
     have:((z:Int)==2)=true:=by rw[beq_iff_eq]at q⊢;omega
     rw[this]
    |false=>
     have:((z:Int)==2)=false:=by rw[beq_eq_false_iff_ne]at q⊢;omega
     rw[this]
  have g:¬ e=2:=zu g;refine Z0 ?_;exact p _ () ⟨i,g⟩ (Weak.st zp zp)
 rintro _ ⟨i,g⟩;rw[if_neg i,if_neg g]at f
 cases l:(name==[])<;>cases k:(e==1)<;>cases j:(num==0)<;>((refine Yo λK d=>AW.region zk ?_;refine Xw (zi l (zi k j)) ?_;refine d _ ?_;clear d K);(refine AW.ret ?_;refine Zs ?_;refine Va ?_);rw[f,l,k,j]<;>rfl)
def U5(p:Int×Int):V:=.agg [.int .i64 p.1,.int .i64 p.2]
theorem Nq(p:Int×Int):(U5 p).cells.length=2:=rfl
theorem Zjp{l:List XN}{k:Nat}{n:XN}(h:l[k]?=some n)(i:Int)(a:List (Int×Int)):Qn (l.drop k) i a=match Mq i n a with|some o=>Qn (l.drop (k+1)) (i+1) o|none=>none:=by
 obtain⟨c,b⟩:=List.getElem?_eq_some_iff.1 h
 rw[List.drop_eq_getElem_cons c,b]<;>rfl
theorem Zbv{op:Int}(b:1<=op)(a:op<=22):tabC[op.toNat*3+2]?=some (.int .i64 (Ya op:Nat)):=by
 obtain⟨n,rfl⟩:∃ n:Nat,op=n:=⟨op.toNat,zo⟩;rw[Int.toNat_natCast,Z7e n zo 2 zd]
 have:∀ n:Nat,n<23->1<=n->(tabL.getD n ⟨[],0,0⟩).parts=(Ya n:Nat):=by decide +kernel
 rw[<- this n zo zo]<;>rfl
theorem Zwt:∀ (l:List (Int×Int)) (i:Nat) (x:Int×Int),l[i]?=some x->((flat (l.map U5)).drop (i*2)).take 2=[.int .i64 x.1,.int .i64 x.2]
 |[],i,x,h=>by simp at h
 |y::r,0,x,h=>by
  have:y=x:=zu h;subst this;rfl
 |y::r,i+1,x,h=>by
  have a:=Zwt r i x (zu h);rw[<- a,List.map_cons];have:flat (U5 y::r.map U5)=.int .i64 y.1::.int .i64 y.2::flat (r.map U5):=rfl;rw[this,show(i+1)*2=i*2+1+1 by omega,List.drop_succ_cons,List.drop_succ_cons]
def plC(l:List (Int×Int)):List V:=(Ww l).map (V.int .i64)
theorem Z34:∀ (l:List (Int×Int)) (j:Nat) (x:Int×Int),l[j]?=some x->j<3->Hs.setAt (plC (l.take j)) j [.int .i64 x.1]=plC (l.take (j+1)):=by
 intro l j x h d
 match l,j,h,d with
 |a::r,0,h,_=>
  have:a=x:=zu h;subst this;rfl
 |a::b::r,1,h,_=>
  have:b=x:=zu h;subst this;rfl
 |a::b::c::r,2,h,_=>
  have:c=x:=zu h;subst this;rfl
theorem Zdb(l:List (Int×Int))(j:Nat)(x:Int×Int)(h:l[j]?=some x):Vu (l.take (j+1))=max (Vu (l.take j)) x.2:=by
 unfold Vu
 rw[List.take_add_one,h,List.foldl_append]<;>rfl
theorem Z44(l:List (Int×Int)):(plC l).length=3:=rfl
theorem Zvn(op:Int):Ya op<=3:=by
 unfold Ya
 split
 omega
 split
 omega
 split<;>omega
theorem Zkp{l:List (Int×Int)}{k:Int}(f:0<=k)(h:∀ y∈l,(0:Int)<=y.2/\y.2<=k):0<=Vu l/\Vu l<=k:=by
 have:∀ (l:List (Int×Int)) (d:Int),0<=d->d<=k->(∀ y∈l,(0:Int)<=y.2/\y.2<=k)->0<=l.foldl (λd p=>max d p.2) d/\l.foldl (λd p=>max d p.2) d<=k:=by
  intro l
  induction l with
  |nil=>intro d c b _;exact⟨c,b⟩
  |cons y r ih=>
   intro d c b a;have:=a y zS;exact ih (max d y.2) zo zo λz e=>a z (by simp[e])
 exact this l 0 (Int.le_refl _) f h
theorem Zsw(l:List (Int×Int))(n:Nat):(flat (l.map U5)).take (n*2)=flat ((l.take n).map U5):=by
 induction l generalizing n with
 |nil=>simp[flat]
 |cons y r ih=>
  cases n with
  |zero=>simp[flat]
  |succ n=>
   have e:flat ((y::r).map U5)=.int .i64 y.1::.int .i64 y.2::flat (r.map U5):=rfl
   rw[e,List.take_succ_cons,List.map_cons,show(n+1)*2=n*2+1+1 by omega,List.take_succ_cons,List.take_succ_cons,ih]<;>rfl
theorem Hg(G:Nat->V)(hE:GExp G)(c:Col)(s:Sl XN)(hs:s.l.length<1000000)(hnm:∀ n∈s.l,n.name.length<100000):
  Spec Tryz.prog G 260 [.agg [Za c 6 Y4 s]] Zi (λv _=>v=.int .i64 (Vt s.l)):=by
 have Y:=hE.ok;refine Zo 0 81 [.tmp 2] Tryz.func260 λX=>?_
 have O:Vt s.l=match Qn s.l 0 []with|some [x]=>x.2|_=>0:=rfl
 have B:Qn s.l 0 []=none->Vt s.l=0:=λh=>by rw[O,h]
 refine Z1 ?_;intro g1;refine Z1 ?_;refine Zn Y ?_ (s:=(Oz G Y));refine Xw (zi @Zaa (zi @Fm @Nat.le_refl)) ?_;intro F;rw[J4 _ ?hl]
 case hl=>rfl
 refine Z1 ?_;refine Z1 ?_;refine AW.block ?_
 refine Yf s.l.length (λk (x:Nat×List (Int×Int))=>st [(3,.ptr 3 F 0),(4,grown 72 x.1 2 x.2),(14,Za c 6 Y4 s),(15,.int .i64 s.l.length),(16,.int .i64 k)] [(3,.cells .new F 0 tabC),(72,Yb x.1 U5 x.2)])
  (λk x=>Qn s.l 0 []=Qn (s.l.drop k) k x.2/\x.2.length<=k/\∀ y∈x.2,(0:Int)<=y.2/\y.2<=k) 0 (0,[]) (Nat.zero_le _) ⟨zS,Nat.le_refl _,zS⟩
  (Weak.st zp zp) ?_
 rintro k ⟨z,d⟩ hk ⟨C,hol,N⟩ L2 hL2
 replace C:Qn s.l 0 []=Qn (s.l.drop k) k d:=C
 replace hol:d.length<=k:=hol
 replace N:∀ y∈d,(0:Int)<=y.2/\y.2<=k:=N
 refine Z1 ?_;refine Z4 ?_;refine Zm rfl (λh4=>?_) (λh4=>?_)
 .have hk1:k<s.l.length:=zu h4
  have hg:=List.getElem?_eq_getElem hk1;have hnn:=hnm _ (List.getElem_mem hk1);generalize s.l[k]=n at hg hnn;rw[Zjp hg]at C;refine Xc (zi hg @Uc) ?_;intro L;refine Z1 ?_;rw[<- Uc];refine Zcf @O8 Y ?_ (s:=(Zim G hE n hnn))
  have u:Mq k n d=if Sd n=false then none else if d.length<Ya n.op then none
   else if Ww (d.drop (d.length-Ya n.op))≠[n.a,n.b,n.c]then none
   else some (d.take (d.length-Ya n.op)++[((k:Int),Vu (d.drop (d.length-Ya n.op))+1)]):=rfl
  cases hw:Sd n with
  |false=>
   rw[if_pos hw]at u;rw[u]at C;refine Zm rfl (λR=>?_) (λR=>?_);refine Z ?_;rw[B C];cases R
  |true=>
  rw[if_neg (by rw[hw];simp)]at u;refine Z0 ?_;have hrg:=Le hw;have hpt:=Zbv hrg.1 hrg.2;have hp3:Ya n.op<=3:=Zvn _;generalize hpd:Ya n.op=p at u hpt hp3;have hop0:(0:Int)<=n.op:=zo;have S:n.op<23:=zo;have hsub:IntKind.i64.wrap ((d.length:Int)-(p:Int))=(d.length:Int)-p:=W0 zo zo;refine Xc (zi hop0 (zi S (zi hpt (zi hsub @Nat.zero_add)))) ?_;refine Z4 ?_
  by_cases hlt:d.length<p
  have e1:decide ((d.length:Int)-p<0)=true:=zT;rw[if_pos hlt]at u;rw[u]at C;refine Xc e1 ?_;refine Zm rfl (λh9=>?_) (λh9=>?_);refine Z ?_;rw[B C];cases h9;have e1:decide ((d.length:Int)-p<0)=false:=zF;rw[if_neg hlt]at u;refine Xc e1 ?_;refine Z0 ?_;obtain⟨q,hkk⟩:∃ q:Nat,q=d.length-p:=⟨_,rfl⟩;rw[<- hkk]at u;have hkd:(d.length:Int)-p=(q:Int):=zo;rw[hkd];refine Z1 ?_;intro w;have T:q+p=d.length:=zo
  refine Wr (fun(_:Unit)=>st [(3,.ptr 3 F 0),(4,grown 72 z 2 d),(5,.int .i64 k),(6,.ptr 6 L 0),(7,.int .i64 q),(8,.msl 34 w 0 3 1),(9,.int .i64 (Vu (d.drop q))),(14,Za c 6 Y4 s),(15,.int .i64 s.l.length),(16,.int .i64 k)]
    [(3,.cells .new F 0 tabC),(72,Yb z U5 d),(6,.cells .new L 0 [.int .u8 n.op,.int .i64 n.num,.str n.name,.int .i64 n.a,.int .i64 n.b,.int .i64 n.c]),(34,.cells .new w 0 (plC (d.drop q)))])
   (λ_=>True) (λK10 E=>?_) ?_
  by_cases hp0:p=0
  have hdn:d.drop q=[]:=List.drop_eq_nil_of_le zo;rw[hdn]at E;subst hp0;have A:q<=d.length:=zo;have hnlt:¬ q<d.length:=zo
  by_cases t:d=[]
  subst t;have I:q=0:=zu T;subst I;refine Vp zk ?_;simp -implicitDefEqProofs only[go_sem,seval,Rv,Vr,and_self];refine AW.block ?_
  refine Yf 0 (λj (_:Unit)=>st [(3,.ptr 3 F 0),(5,.int .i64 k),(4,.nils),(6,.ptr 6 L 0),(7,.int .i64 (0:Nat)),(8,.msl 34 w 0 3 1),(9,.int .i64 0),(14,Za c 6 Y4 s),(15,.int .i64 s.l.length),(16,.int .i64 k),(38,.int .i64 0),(39,.int .i64 j)]
    [(3,.cells .new F 0 tabC),(6,.cells .new L 0 [.int .u8 n.op,.int .i64 n.num,.str n.name,.int .i64 n.a,.int .i64 n.b,.int .i64 n.c]),(34,.cells .new w 0 (plC []))])
   (λj _=>True) 0 () (Nat.zero_le _) trivial (Weak.st zp zp) ?_
  intro j _ hj _ L11 K;obtain rfl:j=0:=zo;refine Z1 ?_;refine Z0 ?_;refine Z0 ?_;exact E _ () trivial (Weak.st (V9 @Rv) (V9 @Vr))
  have I:¬ q=0:=by
   intro h;have:d.length=0:=zo;exact t (List.length_eq_zero_iff.1 this)
  refine Vp zk ?_;simp -implicitDefEqProofs only[go_sem,seval,Xa 72 z 2 t,A,Nat.le_refl,and_self,I,hnlt];refine AW.block ?_
  refine Yf 0 (λj (_:Unit)=>st [(3,.ptr 3 F 0),(4,grown 72 z 2 d),(5,.int .i64 k),(6,.ptr 6 L 0),(7,.int .i64 q),(8,.msl 34 w 0 3 1),(9,.int .i64 0),(14,Za c 6 Y4 s),(15,.int .i64 s.l.length),(16,.int .i64 k),(38,.int .i64 0),(39,.int .i64 j)]
    [(3,.cells .new F 0 tabC),(72,Yb z U5 d),(6,.cells .new L 0 [.int .u8 n.op,.int .i64 n.num,.str n.name,.int .i64 n.a,.int .i64 n.b,.int .i64 n.c]),(34,.cells .new w 0 (plC []))])
   (λj _=>True) 0 () (Nat.zero_le _) trivial (Weak.st (by refine Zs ?_;rw[Xa 72 z 2 t];try exact⟨rfl,rfl⟩) zp) ?_
  intro j _ hj _ L11 K;obtain rfl:j=0:=zo;refine Z1 ?_;refine Z0 ?_;refine Z0 ?_;exact E _ () trivial (Weak.st zp zp)
  have t:d≠[]:=by intro e;rw[e]at T;simp at T;omega
  have hsl:(if q=0 then V.msl 72 z 0 d.length 2 else if q<d.length then V.msl 72 z (q*2) (d.length-q) 2 else V.slice .any false 2 [])=.msl 72 z (q*2) p 2:=by
   by_cases h0:q=0
   rw[if_pos h0];congr 1<;>omega
   rw[if_neg h0,if_pos zo];congr 1;omega
  have A:q<=d.length:=zo;refine Vp zk ?_;simp -implicitDefEqProofs only[go_sem,seval,Xa 72 z 2 t,A,Nat.le_refl,and_self,hsl,Nat.zero_add];refine AW.block ?_
  refine Yf p (λj (_:Unit)=>st [(3,.ptr 3 F 0),(4,grown 72 z 2 d),(5,.int .i64 k),(6,.ptr 6 L 0),(7,.int .i64 q),(8,.msl 34 w 0 3 1),(9,.int .i64 (Vu ((d.drop q).take j))),(14,Za c 6 Y4 s),(15,.int .i64 s.l.length),(16,.int .i64 k),(37,.msl 72 z (q*2) p 2),(38,.int .i64 p),(39,.int .i64 j)]
    [(3,.cells .new F 0 tabC),(72,Yb z U5 d),(6,.cells .new L 0 [.int .u8 n.op,.int .i64 n.num,.str n.name,.int .i64 n.a,.int .i64 n.b,.int .i64 n.c]),(34,.cells .new w 0 (plC ((d.drop q).take j)))])
   (λj _=>True) 0 () (Nat.zero_le _) trivial
   (Weak.st (by refine Zs ?_;rw[Xa 72 z 2 t];exact⟨rfl,rfl⟩) zp) ?_
  intro j _ hj _ L11 K;refine Z1 ?_;refine Z4 ?_;refine Zm rfl (λW=>?_) (λW=>?_);have U:j<p:=zL W;refine Z0 ?_;refine Z4 ?_;refine AW.block ?_;obtain⟨x,hx⟩:∃ x,d[q+j]?=some x:=⟨_,List.getElem?_eq_getElem zo⟩
  have hxd:(d.drop q)[j]?=some x:=by rw[List.getElem?_drop];exact hx
  have hfp:=Zwt d (q+j) x hx;rw[show(q+j)*2=q*2+j*2 by omega]at hfp
  have hfl:q*2+j*2+2<=(flat (d.map U5)).length:=by rw[Xo (m:=2) Nq];omega
  have hps:=Z34 (d.drop q) j x hxd zo;have hds:=Zdb (d.drop q) j x hxd;have hpl:=Z44 ((d.drop q).take j);generalize plC ((d.drop q).take j)=pc at hps hpl⊢;generalize Vu ((d.drop q).take j)=D at hds⊢;have hj3:(j:Int)<3:=zo;refine Vp zk ?_;simp -implicitDefEqProofs only[go_sem,seval,We z U5 t,hfp,hfl,Int.natCast_nonneg,U,Int.ofNat_lt];intro g11
  refine AW.weak (Zw (λo=>o==11) (l:=[(3,.ptr 3 F 0),(4,grown 72 z 2 d),(5,.int .i64 k),(6,.ptr 6 L 0),(7,.int .i64 q),(8,.msl 34 w 0 3 1),(9,.int .i64 D),(10,.int .i64 j),(11,.view .new (.agg [.int .i64 x.1,.int .i64 x.2])),(14,Za c 6 Y4 s),(15,.int .i64 s.l.length),(16,.int .i64 k),(37,.msl 72 z (q*2) p 2),(38,.int .i64 p),(39,.int .i64 j)])
   (m:=[(3,.cells .new F 0 tabC),(72,Yb z U5 d),(6,.cells .new L 0 [.int .u8 n.op,.int .i64 n.num,.str n.name,.int .i64 n.a,.int .i64 n.b,.int .i64 n.c]),(34,.cells .new w 0 pc)]) ?_ ?_) ?_
  refine Zs ?_;refine⟨Fz.same _,Fz.same _,Fz.same _,Fz.same _,Fz.same _,Fz.same _,Fz.same _,Fz.same _,?_,Fz.same _,Fz.same _,Fz.same _,Fz.same _,Fz.same _,Fz.same _⟩;exact Fz.ptr (v:=.agg [.int .i64 x.1,.int .i64 x.2]) (c:=.new) (fz:=0) rfl zp;simp only[Zy,Z2,and_true];exact⟨FzO.keep rfl zp,FzO.keep rfl (by first|rfl|(rw[We z U5 t]<;>rfl)|(simp -implicitDefEqProofs only[go_sem,seval];try rfl)),FzO.keep rfl zp,FzO.keep rfl zp⟩;refine Zp ⟨λ_=>.top,λi=>if i=3 then .lend else if i=6 then .lend else .pure⟩ zk Y zk zk ?_;have hjl:j+1<=pc.length:=zo;have hset:pc.set j (.int .i64 x.1)=plC ((d.drop q).take (j+1)):=hps
  have hmx:(if x.2>D then x.2 else D)=max D x.2:=by
   rw[Int.max_def];split<;>split<;>omega
  simp -implicitDefEqProofs only[go_sem,seval,hj3,Int.natCast_nonneg,Nat.mul_one,Nat.zero_le,hjl,hset,hmx,<- hds];refine Z1 ?_;refine K _ ⟨U,(),trivial,Weak.st zw zp⟩
  have U:j=p:=by have:=zN W;omega
  have htk:(d.drop q).take j=d.drop q:=List.take_of_length_le (by rw[List.length_drop];omega);rw[htk];refine Z0 ?_;exact E _ () trivial (Weak.st zp zp);intro _ _;refine Z4 ?_;have hpl:Ww (d.drop q)=[(Ww (d.drop q)).getD 0 0,(Ww (d.drop q)).getD 1 0,(Ww (d.drop q)).getD 2 0]:=rfl;refine Z1 ?_;intro g61;refine CallA.bor Y [Za .old 1 (V.int .i64) (.mk false (Ww (d.drop q))),Za .old 1 (V.int .i64) (.mk false [n.a,n.b,n.c])] zk ⟨?_,?_,trivial⟩ ?_;exact Rd.msl (off:=0) (n:=3) (l:=Ww (d.drop q)) (f:=V.int .i64) (f':=V.int .i64) (g:=w) (fz:=0) (c:=.new) (by refine Zs ?_;exact congrArg (AObj.cells Col.new w 0) (Dj _ _).symm) (λ_=>rfl) (λx y M=>by simp[V.cells]at M;subst M;exact .int _ _) (λ_=>rfl) (by simp[Ww]);exact Rd.msl (off:=0) (n:=3) (l:=[n.a,n.b,n.c]) (f:=V.int .i64) (f':=V.int .i64) (g:=g61) (fz:=0) (c:=.new) zp (λ_=>rfl) (λx y M=>by simp[V.cells]at M;subst M;exact .int _ _) (λ_=>rfl) zS;refine(Zlf G Y _ _ (.mk false (Ww (d.drop q))) (.mk false [n.a,n.b,n.c]) (by simp[Ww,Sl.l])).mono ?_;rintro _ _ rfl;refine⟨.bool _,?_⟩;refine Zs ?_
  cases heq:(Ww (d.drop q)==[n.a,n.b,n.c])with
  |false=>
   have J:Ww (d.drop q)≠[n.a,n.b,n.c]:=zu heq;rw[if_pos J]at u;rw[u]at C;refine Zm rfl (λh12=>?_) (λh12=>?_);refine Z ?_;rw[B C];cases h12
  |true=>
  have J:¬ Ww (d.drop q)≠[n.a,n.b,n.c]:=zu heq;rw[if_neg J]at u;rw[u]at C;refine Z0 ?_;have hdb:=Zkp (l:=d.drop q) (k:=k) zo λy M=>N y (List.mem_of_mem_drop M);generalize Vu (d.drop q)=D at C hdb⊢;have hwd:IntKind.i64.wrap (D+1)=D+1:=W0 zo zo;have P:d.take q++[((k:Int),D+1)]≠[]:=zS
  have H:(d.take q++[((k:Int),D+1)]).length=q+1:=by rw[List.length_append,List.length_take];simp;omega
  have Q:∀ y∈d.take q++[((k:Int),D+1)],(0:Int)<=y.2/\y.2<=(k+1:Nat):=by
   intro y M
   rcases List.mem_append.1 M with h|h
   have:=N y (List.mem_of_mem_take h);omega
   rw[List.mem_singleton.1 h];show 0<=D+1/\D+1<=_;omega
  by_cases t:d=[]
  subst t;have I:q=0:=zu hkk;subst I;refine AW.region zk ?_;simp -implicitDefEqProofs only[go_sem,seval,Rv,Vr,and_self,hwd];intro g71;refine X2 (f:=U5) (l:=([]:List (Int×Int))) (l2:=[((k:Int),D+1)]) (g:=z) Nq rfl rfl rfl rfl (Yg zo zS) λg2=>?_;refine Zs ?_;refine Z1 ?_;refine hL2 _ ⟨hk1,(g2,[((k:Int),D+1)]),⟨C,?_,Q⟩,Weak.st zw zp⟩
  show 1<=k+1
  omega;have A:q<=d.length:=zo;refine AW.region zk ?_;simp -implicitDefEqProofs only[go_sem,seval,Xa 72 z 2 t,Nat.zero_le,A,and_self,hwd,We z U5 t];intro g71;refine⟨Yg zo zo,by rw[Xo (m:=2) Nq];omega,λg2=>?_⟩;refine Z1 ?_;refine hL2 _ ⟨hk1,(g2,d.take q++[((k:Int),D+1)]),⟨C,?_,Q⟩,Weak.st (by refine Zs ?_;exact⟨by rw[Xa _ _ _ P,H],congrArg _ (W0 zo zo)⟩) (by refine Zs ?_;rw[We _ _ P,List.map_append,Um,<- Zsw]<;>rfl)⟩
  show(d.take q++[_]).length<=k+1
  rw[H];omega
 .have hk1:k=s.l.length:=by simp at h4;omega
  refine Z0 ?_;rw[hk1,List.drop_length,Qn]at C;rw[C]at O;refine Z4 ?_
  match d,O with
  |[],O=>
   refine Xc @Rv ?_;refine Zm rfl (λR=>?_) (λR=>?_);refine Z ?_;rw[O];cases R
  |[x],O=>
   have t:[x]≠([]:List (Int×Int)):=zS;refine Z1 ?_;refine Z0 ?_;have hfx:flat ([x].map U5)=[.int .i64 x.1,.int .i64 x.2]:=rfl;refine Vp zk ?_;simp -implicitDefEqProofs only[go_sem,seval,Xa 72 z 2 t,We z U5 t,hfx];refine Z ?_;rw[O]
  |x::y::r,O=>
   have e1:(((x::y::r).length:Int) != 1)=true:=zO;refine Xc e1 ?_;refine Zm rfl (λR=>?_) (λR=>?_);refine Z ?_;rw[O];cases R
def T6(l:List XN):Int:=if Vt l=0 then 2 else if Vt l>64 then 3 else 0
theorem O0(G:Nat->V)(f:GExp G)(c:Col)(s:Sl XN)(h:s.l.length<1000000)(e:∀ n∈s.l,n.name.length<100000):
  Spec Tryz.prog G 261 [.agg [Za c 6 Y4 s]] Zi (λv _=>v=.int .i64 (T6 s.l)):=by
 have i:=f.ok;refine Zo 0 12 [.tmp 2] Tryz.func261 λX=>?_
 have a:T6 s.l=if Vt s.l=0 then 2 else if Vt s.l>64 then 3 else 0:=rfl
 generalize T6 s.l=g at a⊢;refine Z1 ?_;intro j;refine Z1 ?_;refine Zcf @Wc i ?_ (s:=(Hg G f c.ent s h e));refine Z1 ?_;refine Zm rfl (λd=>?_) (λd=>?_);have d:Vt s.l=0:=zu d;rw[if_pos d]at a;refine Z ?_;rw[a];have d:¬ Vt s.l=0:=zu d;rw[if_neg d]at a;refine Z1 ?_;refine Zm rfl (λb=>?_) (λb=>?_);have b:Vt s.l>64:=zu b;rw[if_pos b]at a;refine Z ?_;rw[a];have b:¬ Vt s.l>64:=zu b;rw[if_neg b]at a;refine Z ?_;rw[a]
end Go.Hs
end

section
namespace Go.Hs
def NmQ(Q:List UInt8->Prop)(r:RS):Prop:=∀ n∈r.nodes,Q n.name
def NmI(Q:List UInt8->Prop)(inner:Inner):Prop:=∀ n r,NmQ Q r->NmQ Q (inner n r).2
theorem NmQ.put{Q:List UInt8->Prop}{r:RS}{n:XN}(h:NmQ Q r)(c:Q n.name):NmQ Q (r.put n):=by
 intro m b
 rcases List.mem_append.1 b with a|a
 exact h m a
 grind
theorem W6{Q:List UInt8->Prop}{x:Bool×RS}{k:RS->Bool×RS}(h:NmQ Q x.2)(a:∀ r,NmQ Q r->NmQ Q (k r).2):NmQ Q (andThen x k).2:=by
 obtain⟨b,r⟩:=x;cases b;exact h;exact a r h
theorem Jg{Q:List UInt8->Prop}(l:List Tk)(w:List UInt8){r:RS}(h:NmQ Q r):NmQ Q (S4 l w r).2:=by
 unfold S4;split<;>exact h
theorem Z7n{Q:List UInt8->Prop}(a:Q [])(t:List UInt8){r:RS}(h:NmQ Q r):NmQ Q (Rm r t).2:=by
 unfold Rm;split;exact h;exact NmQ.put (n:=⟨1,_,[],-1,-1,-1⟩) h a
theorem Zgb{Q:List UInt8->Prop}{l:List Tk}{d:Inner}(n:Q [])(hi:NmI Q d){r:RS}(h:NmQ Q r):NmQ Q (Ux l d r).2:=by
 refine W6 (Jg _ _ h) λs m=>W6 (hi _ _ m) λa k=>W6 (Jg _ _ k) λq j=>W6 (hi _ _ j) λb i=>W6 (Jg _ _ i) λp g=>W6 (hi _ _ g) λc f=>W6 (Jg _ _ f) λo e=>?_;exact NmQ.put e n
theorem Zsx{Q:List UInt8->Prop}{l:List Tk}{b:Inner}(c:Q [])(e:∀ i,(Ym l i).kind=2->Q (Ym l i).text)(hi:NmI Q b){r:RS}(h:NmQ Q r):NmQ Q (Qe l b r).2:=by
 unfold Qe
 split
 exact Z7n c _ h
 split
 rename_i f;exact NmQ.put (n:=⟨2,0,(Ym l r.i).text,-1,-1,-1⟩) h (e _ f)
 split
 exact h
 split
 exact W6 (hi _ _ h) λa d=>NmQ.put d c
 split
 exact W6 (hi _ _ h) λa d=>Jg _ _ d
 split
 exact Zgb c hi h
 split
 exact NmQ.put (n:=⟨_,0,[],-1,-1,-1⟩) h c;exact h
theorem Zug{Q:List UInt8->Prop}{l:List Tk}{b:Inner}(c:Q [])(hi:NmI Q b)(n:Int):∀ (m:Nat) (r:RS),NmQ Q r->NmQ Q (Ni l b n m r).2
 |0,r,h=>h
 |m+1,r,h=>by
  rw[Ni]
  split
  exact h
  split
  exact h;exact W6 (hi _ r.adv h) λa d=>Zug c hi n m (a.put _) (NmQ.put d c)
theorem I6{Q:List UInt8->Prop}(l:List Tk)(b:Q [])(c:∀ i,(Ym l i).kind=2->Q (Ym l i).text):∀ f,NmI Q (Xv l f)
 |0=>λ_ _ h=>h
 |f+1=>λn r h=>by
  exact W6 (Zsx b c (I6 l b c f) h) λa d=>Zug b (I6 l b c f) n _ a d
end Go.Hs
end

section
namespace Go.Hs
open Go.Proofs
set_option maxRecDepth 10000
theorem Zwy{b:Nat}{a:List V}{G:Nat->V}(D:Y6 G){f:FuncId}{args args':List V}{j:Sl Tk}{g:Nat}{r r':RS}{v:V}(h:RdS b a G f args' j g r v r'){H:Heap}{K:V->Heap->Prop}
  (n:Z5 Tryz.prog f=true) (m:∀ F:Col->Col,a.map (V.recol F)=a) (d:args.map (V.recol Col.ent)=args') (A:v.recol Col.bk=v) (q:r.nodes=[])
  (cs:List V) (u:H 8=.cells .new g 0 cs) (o:Yt Col.ent cs=(Za .any 3 Wi j::.int .i64 r.i::.nils::.int .i64 r.e::a)) (s:H b=.dead)
  (B:∀ gx',K v (Z6 H [(8,.cells .new g 0 (Za .any 3 Wi j::.int .i64 r'.i::grown b gx' 6 r'.nodes::.int .i64 r'.e::a)),(b,Yb gx' Y4 r'.nodes)])):
  CallA Tryz.prog G f (.ptr 8 g 0::args) H K:=by
 refine Zbm D [(8,Cq b a j g 0 r),(b,Ck 0 r.nodes)] n ?_ ?_ ?_;intro p k;simp only[List.mem_cons,List.not_mem_nil,or_false]at k
 rcases k with rfl|rfl
 simp only[u,AObj.toAny,o,Vl,q];rfl;simp only[s,AObj.toAny,q];rfl;intro p k c M N E l;simp only[List.mem_cons,List.not_mem_nil,or_false]at k
 rcases k with rfl|rfl
 simp only[u,AObj.cells.injEq]at l;exact l.1.symm;simp only[s]at l;cases l
 .have ha:(V.ptr 8 g 0::args).map (V.recol Col.ent)=.ptr 8 g 0::args':=by rw[List.map_cons,Mc,d]
  rw[ha];refine(h 0).mono ?_;rintro _ O ⟨rfl,gx',z,w⟩
  have J:(Cq b a j g gx' r').backNew=.cells .new g 0 (Za .any 3 Wi j::.int .i64 r'.i::grown b gx' 6 r'.nodes::.int .i64 r'.e::a):=by
   simp only[Vl,AObj.backNew,Yh,List.map_cons,W9,Xf,Tn,m];rfl
  have I:(Ck gx' r'.nodes).backNew=Yb gx' Y4 r'.nodes:=by
   unfold Ck
   cases L:r'.nodes with
   |nil=>rfl
   |cons x t=>
    rw[I0 _ _ _ zS,We _ _ zS];simp only[AObj.backNew,Yh];rw[<- So,List.map_map];have C:(x::t).map (V.recol Col.bk∘Y4)=(x::t).map Y4:=List.map_congr_left λy _=>O8 _ y
    first|done|rw[C]
  simp only[List.map_cons,List.map_nil,z,w,J,I,A];exact B gx'
def encXs(c:Col)(l:List XN):V:=Za c 6 Y4 (Zb l)
def encFr(c:Col)(p:List XN×Int×Int):V:=.tuple [.agg [encXs c p.1],.int .i64 p.2.1,.int .i64 p.2.2]
theorem Nx{l:List Tk}(b:TkOk l):∀ n∈(Xv l (l.length+1) 1 ⟨0,[],0⟩).2.nodes,n.name.length<100000:=
 I6 (Q:=λs=>s.length<100000) l (Nat.zero_lt_succ _) (λi _=>It b i) _ _ _ (λn a=>by cases a)
theorem Fe(G:Nat->V)(x:GExp G)(c:Col)(a:Sl Tk)(w:TkOk a.l):Spec Tryz.prog G 244 [Za c 3 Wi a] Zi (λv _=>v=encFr .new (Xj a.l)):=by
 have t:=x.ok;have B:=w.len;refine Zo 0 44 [.cell 2 199,.tmp 3,.tmp 4] Tryz.func244 λX=>?_
 have h:Xj a.l=if(Xv a.l (a.l.length+1) 1 ⟨0,[],0⟩).1=false then(([]:List XN),((Xv a.l (a.l.length+1) 1 ⟨0,[],0⟩).2.i:Int),(Xv a.l (a.l.length+1) 1 ⟨0,[],0⟩).2.e)
  else if Vt (Xv a.l (a.l.length+1) 1 ⟨0,[],0⟩).2.nodes>64 then([],0,3)else((Xv a.l (a.l.length+1) 1 ⟨0,[],0⟩).2.nodes,((Xv a.l (a.l.length+1) 1 ⟨0,[],0⟩).2.i:Int),(0:Int)):=rfl
 have p:Ju a.l ⟨0,[],0⟩:=⟨Nat.zero_le _,Nat.le_refl _⟩;have n:=λg=>Zpe G x a w g (a.l.length+1) 1 ⟨0,[],0⟩ zd zd (Nat.lt_succ_self _) p;have f:=Nx w;have k:=(Te a.l (a.l.length+1) 1 ⟨0,[],0⟩);generalize Xj a.l=A at h⊢;generalize Xv a.l (a.l.length+1) 1 ⟨0,[],0⟩=y at h n k f;obtain⟨b,r⟩:=y;simp only at h n k f;refine Z1 ?_;intro j;refine Z1 ?_;intro q;refine Z4 ?_;refine AW.block ?_;refine AW.weak (Zw (λ_=>false) (l:=[(5,.ptr 8 q 0),(2,.ptr 2 j 0)]) (m:=[(2,.cells .new j 0 [.nils]),(8,.cells .new q 0 [Za .any 3 Wi a,.int .i64 0,.nils,.int .i64 0,.func (.func 259) [] []])]) ?_ ?_) ?_;refine Zs ?_;exact⟨Fz.same _,Fz.same _⟩;simp only[Zy,Z2,and_true];exact⟨FzO.keep rfl zp,FzO.of (c:=.new) (fz:=0) (cs:=[Za c 3 Wi a,.int .i64 0,.nils,.int .i64 0,.func (.func 259) [] []]) rfl zp ⟨Fz.any (W9 _ _ _),Fz.same _,Fz.same _,Fz.same _,Fz.same _,trivial⟩⟩;refine Z1 ?_;refine Zwy t (n q) zk (λF=>rfl) rfl rfl rfl _ zp (by simp only[Yh,List.map_cons,List.map_nil,W9];rfl) zp λz=>?_;refine Zu ?_
 cases b with
 |false=>
  refine U8 rfl ?_;refine AW.weak (Zw (λo=>o==8) (l:=[(5,.view .new (.agg [Za .any 3 Wi a,.int .i64 r.i,grown 1031 z 6 r.nodes,.int .i64 r.e,.func (.func 259) [] []])),(2,.ptr 2 j 0)]) (m:=[(2,.cells .new j 0 [.nils])]) ?_ ?_) ?_;refine Zs ?_;exact⟨Fz.ptr (v:=.agg [Za .any 3 Wi a,.int .i64 r.i,grown 1031 z 6 r.nodes,.int .i64 r.e,.func (.func 259) [] []]) (c:=.new) (fz:=0) rfl zp,Fz.same _⟩;simp only[Zy,Z2,and_true];exact FzO.keep rfl zp;refine Z4 ?_;refine Zp ⟨λ_=>.top,λi=>if i=4 then .lend else if i=8 then .lend else .pure⟩ zk t zk zk ?_;refine Zs ?_;refine Z ?_
  rw[h]<;>rfl
 |true=>
 refine Wx rfl ?_;refine AW.weak (Zw (λo=>o==1031) (l:=[(5,.ptr 8 q 0),(2,.ptr 2 j 0)]) (m:=[(2,.cells .new j 0 [.nils]),(8,.cells .new q 0 [Za .any 3 Wi a,.int .i64 r.i,encXs .new r.nodes,.int .i64 r.e,.func (.func 259) [] []])]) ?_ ?_) ?_;refine Zs ?_;exact⟨Fz.same _,Fz.same _⟩;simp only[Zy,Z2,and_true];exact⟨FzO.keep rfl zp,FzO.of (c:=.new) (fz:=0) (cs:=[Za .any 3 Wi a,.int .i64 r.i,grown 1031 z 6 r.nodes,.int .i64 r.e,.func (.func 259) [] []]) rfl zp ⟨Fz.same _,Fz.same _,W7 rfl zp No,Fz.same _,Fz.same _,trivial⟩⟩
 have u:r.nodes.length<1000000:=by have:=(k.ok p);have D:=this.1;have C:=this.2;omega
 rw[if_neg zS]at h;refine Xc @encXs.eq_1 ?_;refine Zcf @Wc t ?_ (s:=(Hg G x Col.new.ent (Zb r.nodes) (by rw[Zl];exact u) (by rw[Zl];exact f)));refine Zm rfl (λd=>?_) (λd=>?_);have d:Vt r.nodes>64:=zu d;rw[if_pos d]at h;refine Z ?_
 rw[h]<;>rfl
 have d:¬ Vt r.nodes>64:=zu d;rw[if_neg d]at h;refine Z0 ?_;refine AW.weak (Zw (λo=>o==8) (l:=[(5,.view .new (.agg [Za .any 3 Wi a,.int .i64 r.i,encXs .new r.nodes,.int .i64 r.e,.func (.func 259) [] []])),(2,.ptr 2 j 0)]) (m:=[(2,.cells .new j 0 [.nils])]) ?_ ?_) ?_;refine Zs ?_;exact⟨Fz.ptr (v:=.agg [Za .any 3 Wi a,.int .i64 r.i,encXs .new r.nodes,.int .i64 r.e,.func (.func 259) [] []]) (c:=.new) (fz:=0) rfl zp,Fz.same _⟩;simp only[Zy,Z2,and_true];exact FzO.keep rfl zp;refine Z4 ?_;refine Zp ⟨λ_=>.top,λi=>if i=3 then .lend else if i=8 then .lend else .pure⟩ zk t zk zk ?_;refine Xw @encXs.eq_1 ?_;refine Z ?_
 rw[h]<;>rfl
theorem Fk:∀ (f:Nat) (s:List UInt8) (i:Nat) (acc:List Tk),(∀ t∈acc,t.text.length<=s.length)->∀ t∈(Vx f s i acc).1,t.text.length<=s.length
 |0,s,i,acc,h=>by rw[Vx];exact h
 |f+1,s,i,acc,h=>by
  rw[Vx]
  split
  split
  intro t a;cases a;refine Fk f s _ _ ?_;intro t a
  rcases List.mem_append.1 a with b|b
  exact h t b;rw[List.mem_singleton.1 b]
  show((s.drop i).take _).length<=s.length
  rw[List.length_take,List.length_drop];omega;exact h
theorem G1{s:List UInt8}(b:s.length<100000):TkOk (Yu s).1:=by
 unfold Yu
 split
 exact⟨Nat.zero_lt_succ _,λt a=>by cases a⟩;refine⟨?_,?_⟩;have:=Bm (s.length+1) s (blk s) [];have c:([]:List Tk).length=0:=rfl;omega;intro t a;have:=Fk (s.length+1) s (blk s) [] (λt a=>by cases a) t a;omega
theorem Zoe(G:Nat->V)(F:GExp G)(s:List UInt8)(I:s.length<100000):Spec Tryz.prog G 213 [.str s] Zi (λv _=>v=encFr .new (Tp s)):=by
 have A:=F.ok;refine Zo 0 60 [.cell 2 199,.tmp 3,.tmp 4] Tryz.func213 λX=>?_
 have a:Tp s=if(Yu s).2.2≠0 then(([]:List XN),(Yu s).2.1,(Yu s).2.2)
  else if(Xj (Yu s).1).2.2=3 then([],0,3)
  else if(Xj (Yu s).1).2.2=0/\(Xj (Yu s).1).2.1=((Yu s).1.length:Nat)then((Xj (Yu s).1).1,0,0)
  else([],if(Xj (Yu s).1).2.1=((Yu s).1.length:Nat)then(s.length:Int)else((Yu s).1.getD (Xj (Yu s).1).2.1.toNat ⟨0,[],0⟩).pos,if(Xj (Yu s).1).2.2=0 then 80 else(Xj (Yu s).1).2.2):=rfl
 generalize Tp s=K at a⊢;have E:=G1 I;have J:=T0 G F s I;have g:=λc=>Fe G F c (Zb (Yu s).1) (by rw[Zl];exact E);simp only[Zl]at g;have D:=Pj (l:=(Yu s).1);generalize Yu s=t at a E J g D;generalize Xj t.1=p at a g D;obtain⟨l,L,H⟩:=t;obtain⟨M,i,e⟩:=p;simp only at a E g D;refine Z1 ?_;intro O;refine Z1 ?_;refine Zn A ?_ (s:=J);refine Xw (zi @encTok.eq_1 (zi @encTks.eq_1 @W9)) ?_;refine Z1 ?_
 by_cases n:H=0
 rotate_left;have C:(H != 0)=true:=zu n;rw[if_pos n]at a;refine Zm rfl (λd=>?_) (λd=>?_);refine Z ?_
 rw[a]<;>rfl
 rw[C]at d;cases d;have C:(H != 0)=false:=zu n;rw[if_neg (zu n)]at a;refine Zm rfl (λd=>?_) (λd=>?_);rw[C]at d;cases d;refine Z1 ?_;refine Znf @W9 A ?_ (s:=(g _));refine Xw (zi @encFr.eq_1 (zi @encXs.eq_1 @Wc)) ?_;intro N;refine Z1 ?_
 by_cases j:e=3
 have B:(e==3)=true:=zu j;rw[if_pos j]at a;refine Zm rfl (λb=>?_) (λb=>?_);refine Z ?_
 rw[a,j]<;>rfl
 rw[B]at b;cases b;have B:(e==3)=false:=zu j;rw[if_neg j]at a;refine Zm rfl (λb=>?_) (λb=>?_);rw[B]at b;cases b
 by_cases x:e=0
 have w:(e==0)=true:=zu x
 by_cases k:i=(l.length:Nat)
 have o:(i==((l.length:Nat):Int))=true:=zu k;rw[if_pos ⟨x,k⟩]at a;refine Xc (zi w o) ?_;refine Zm rfl (λz=>?_) (λz=>?_);refine Z ?_
 rw[a]<;>rfl
 cases z;have o:(i==((l.length:Nat):Int))=false:=zu k;rw[if_neg (λh=>k h.2),if_neg k,if_pos x]at a;obtain⟨m,rfl⟩:∃ m:Nat,i=m:=⟨i.toNat,zo⟩;have r:m<l.length:=zo;obtain⟨q,f⟩:∃ q,l[m]?=some q:=⟨_,List.getElem?_eq_getElem r⟩
 have u:(l.getD ((m:Nat):Int).toNat ⟨0,[],0⟩)=q:=by rw[Int.toNat_natCast,List.getD_eq_getElem?_getD,f]<;>rfl
 rw[u]at a;refine Xc (zi w o) ?_;refine Xc w ?_;refine Z1 ?_;refine Xc o ?_;refine Z0 ?_;refine Z4 ?_;refine Zp ⟨λ_=>.top,λi=>if i=5 then .lend else .pure⟩ zk A zk zk ?_;refine Xw (zi f @Vs) ?_;refine Z ?_
 rw[a]<;>rfl
 have w:(e==0)=false:=zu x;rw[if_neg (λh=>x h.1),if_neg x]at a;refine Xc w ?_;refine Xc w ?_;refine Z0 ?_;refine Z4 ?_
 by_cases k:i=(l.length:Nat)
 have o:(i==((l.length:Nat):Int))=true:=zu k;rw[if_pos k]at a;refine Xc o ?_;refine Zm rfl (λy=>?_) (λy=>?_);refine Z ?_
 rw[a]<;>rfl
 cases y;have o:(i==((l.length:Nat):Int))=false:=zu k;rw[if_neg k]at a;obtain⟨m,rfl⟩:∃ m:Nat,i=m:=⟨i.toNat,zo⟩;have r:m<l.length:=zo;obtain⟨q,f⟩:∃ q,l[m]?=some q:=⟨_,List.getElem?_eq_getElem r⟩
 have u:(l.getD ((m:Nat):Int).toNat ⟨0,[],0⟩)=q:=by rw[Int.toNat_natCast,List.getD_eq_getElem?_getD,f]<;>rfl
 rw[u]at a;refine Xc o ?_;refine Z0 ?_;refine Z4 ?_;refine Zp ⟨λ_=>.top,λi=>if i=5 then .lend else .pure⟩ zk A zk zk ?_;refine Xw (zi f @Vs) ?_;refine Z ?_
 rw[a]<;>rfl
end Go.Hs
end

section
namespace Go.Hs
inductive Sub:X->X->Nat->Prop where
 |refl (x:X):Sub x x 0
 |un {op:Int} {a y:X} {b:Nat}:Sub a y b->Sub (.un op a) y b
 |bin1 {op:Int} {a c y:X} {b:Nat}:Sub a y b->Sub (.bin op a c) y b
 |bin2 {op:Int} {a c y:X} {b:Nat}:Sub c y b->Sub (.bin op a c) y (a.size+b)
 |ite1 {a c d y:X} {b:Nat}:Sub a y b->Sub (.ite a c d) y b
 |ite2 {a c d y:X} {b:Nat}:Sub c y b->Sub (.ite a c d) y (a.size+b)
 |ite3 {a c d y:X} {b:Nat}:Sub d y b->Sub (.ite a c d) y (a.size+c.size+b)
def Q2:X->List X
 |.leaf op num name=>[.leaf op num name]
 |.un op a=>Q2 a++[.un op a]
 |.bin op a c=>Q2 a++Q2 c++[.bin op a c]
 |.ite a c d=>Q2 a++Q2 c++Q2 d++[.ite a c d]
theorem Wo:∀ x:X,(Q2 x).length=x.size
 |.leaf .. => rfl
 |.un _ a=>by simp[Q2,X.size,Wo a]
 |.bin _ a b=>by simp[Q2,X.size,Wo a,Wo b];omega
 |.ite a b c=>by simp[Q2,X.size,Wo a,Wo b,Wo c];omega
theorem Sub.trans{x y z:X}{b c:Nat}(h:Sub x y b)(a:Sub y z c):Sub x z (b+c):=by
 induction h with
 |refl=>grind
 |un _ ih=>exact .un (ih a)
 |bin1 _ ih=>exact .bin1 (ih a)
 |bin2 _ ih=>rw[Nat.add_assoc];exact .bin2 (ih a)
 |ite1 _ ih=>exact .ite1 (ih a)
 |ite2 _ ih=>rw[Nat.add_assoc];exact .ite2 (ih a)
 |ite3 _ ih=>rw[Nat.add_assoc];exact .ite3 (ih a)
theorem Sub.ok{x y:X}{b:Nat}(h:Sub x y b):x.ok=true->y.ok=true:=by
 induction h with
 |refl=>grind
 |un _ ih=>intro h;simp[X.ok]at h;exact ih h.2
 |bin1 _ ih=>intro h;simp[X.ok]at h;exact ih h.1.2
 |bin2 _ ih=>intro h;simp[X.ok]at h;exact ih h.2
 |ite1 _ ih=>intro h;simp[X.ok]at h;exact ih h.1.1
 |ite2 _ ih=>intro h;simp[X.ok]at h;exact ih h.1.2
 |ite3 _ ih=>intro h;simp[X.ok]at h;exact ih h.2
theorem Sub.size{x y:X}{b:Nat}(h:Sub x y b):b+y.size<=x.size:=by
 induction h with
 |refl=>simp
 |un _ ih=>simp only[X.size];omega
 |bin1 _ ih=>simp only[X.size];omega
 |bin2 _ ih=>simp only[X.size];omega
 |ite1 _ ih=>simp only[X.size];omega
 |ite2 _ ih=>simp only[X.size];omega
 |ite3 _ ih=>simp only[X.size];omega
theorem Sub.depth{x y:X}{b:Nat}(h:Sub x y b):y.depth<=x.depth:=by
 induction h with
 |refl=>simp
 |un _ ih=>simp only[X.depth];omega
 |bin1 _ ih=>simp only[X.depth];omega
 |bin2 _ ih=>simp only[X.depth];omega
 |ite1 _ ih=>simp only[X.depth];omega
 |ite2 _ ih=>simp only[X.depth];omega
 |ite3 _ ih=>simp only[X.depth];omega
theorem Sub.at{x y:X}{b:Nat}(h:Sub x y b):∀ {l:List XN} {k:Nat},At l x k->At l y (k+b):=by
 induction h with
 |refl=>grind
 |un _ ih=>intro l k h;exact ih h.un
 |bin1 _ ih=>intro l k h;exact ih h.bin.1
 |bin2 _ ih=>intro l k h;rw[<- Nat.add_assoc];exact ih h.bin.2
 |ite1 _ ih=>intro l k h;exact ih h.ite.1
 |ite2 _ ih=>intro l k h;rw[<- Nat.add_assoc];exact ih h.ite.2.1
 |ite3 _ ih=>intro l k h;rw[<- Nat.add_assoc,<- Nat.add_assoc];exact ih h.ite.2.2
theorem Zqz(x:X):(Q2 x)[x.size-1]?=some x:=by
 have:∃ l,Q2 x=l++[x]:=by
  cases x with
  |leaf=>exact⟨[],rfl⟩
  |un=>exact⟨_,rfl⟩
  |bin=>exact⟨_,rfl⟩
  |ite=>exact⟨_,rfl⟩
 obtain⟨l,h⟩:=this;have a:=Wo x
 grind
theorem Sub.get{x y:X}{b:Nat}(h:Sub x y b):(Q2 x)[b+y.size-1]?=some y:=by
 have e:=y.size_pos
 induction h with
 |refl x=>rw[Nat.zero_add];exact Zqz x
 |@un op a y b h ih=>
  have:=h.size;have g:=Wo a;rw[Q2,List.getElem?_append_left (by omega)];exact ih e
 |@bin1 op a c y b h ih=>
  have:=h.size;have g:=Wo a;rw[Q2,List.append_assoc,List.getElem?_append_left (by omega)];exact ih e
 |@bin2 op a c y b h ih=>
  have:=h.size;have g:=Wo a;have f:=Wo c;rw[Q2,List.append_assoc,List.getElem?_append_right (by omega),List.getElem?_append_left (by omega),<- ih e]
  congr 1;omega
 |@ite1 a c d y b h ih=>
  have:=h.size;have g:=Wo a;rw[Q2,List.append_assoc,List.append_assoc,List.getElem?_append_left (by omega)];exact ih e
 |@ite2 a c d y b h ih=>
  have:=h.size;have g:=Wo a;have f:=Wo c;rw[Q2,List.append_assoc,List.append_assoc,List.getElem?_append_right (by omega),List.getElem?_append_left (by omega),<- ih e]
  congr 1;omega
 |@ite3 a c d y b h ih=>
  have:=h.size;have g:=Wo a;have f:=Wo c;have i:=Wo d;rw[Q2,List.append_assoc,List.append_assoc,List.getElem?_append_right (by omega),List.getElem?_append_right (by omega),List.getElem?_append_left (by omega),<- ih e]
  congr 1;omega
theorem Pz:∀ (x:X) (i:Nat),i<x.size->∃ y b,Sub x y b/\b+y.size=i+1
 |.leaf op num name,i,h=>⟨_,0,.refl _,by simp only[X.size]at h⊢;omega⟩
 |.un op a,i,h=>by
  by_cases k:i<a.size
  obtain⟨y,b,e,f⟩:=Pz a i k;exact⟨y,b,.un e,f⟩;exact⟨_,0,.refl _,by simp only[X.size]at h⊢;omega⟩
 |.bin op a c,i,h=>by
  by_cases k:i<a.size
  obtain⟨y,b,e,f⟩:=Pz a i k;exact⟨y,b,.bin1 e,f⟩
  by_cases g:i-a.size<c.size
  obtain⟨y,b,e,f⟩:=Pz c (i-a.size) g;exact⟨y,_,.bin2 e,by omega⟩;exact⟨_,0,.refl _,by simp only[X.size]at h⊢;omega⟩
 |.ite a c d,i,h=>by
  by_cases k:i<a.size
  obtain⟨y,b,e,f⟩:=Pz a i k;exact⟨y,b,.ite1 e,f⟩
  by_cases g:i-a.size<c.size
  obtain⟨y,b,e,f⟩:=Pz c (i-a.size) g;exact⟨y,_,.ite2 e,by omega⟩
  by_cases j:i-a.size-c.size<d.size
  obtain⟨y,b,e,f⟩:=Pz d (i-a.size-c.size) j;exact⟨y,_,.ite3 e,by omega⟩;exact⟨_,0,.refl _,by simp only[X.size]at h⊢;omega⟩
theorem Sub.top{x y:X}{b:Nat}(h:Sub x y b):(x.row 0)[b+y.size-1]?=some (y.top b):=by
 have:=(h.at (Zs3 x)).get
 grind
theorem sub_at(x:X)(i:Nat)(h:i<x.size):∃ y b,Sub x y b/\b+y.size=i+1/\(Q2 x)[i]?=some y/\(x.row 0)[i]?=some (y.top b):=by
 obtain⟨y,b,a,c⟩:=Pz x i h
 have e:i=b+y.size-1:=by omega
 exact⟨y,b,a,c,e ▸ a.get,e ▸ a.top⟩
def kd(op:Int)(named:Bool)(a b c:Int):Int:=
 if op=1\/op=2/\named=true then 1
 else if op=3\/op=4 then 2
 else if op=5/\a=1\/7<=op/\op<=11/\a=1/\b=1 then 1
 else if 12<=op/\op<=15/\a=1/\b=1\/(op=16\/op=17)/\a=b/\a≠0 then 2
 else if op=6/\a=2\/18<=op/\op<=21/\a=2/\b=2 then 2
 else if op=22/\a=2/\b=c then b else 0
theorem Z11{op:Int}{nm:Bool}{a b c:Int}(d:0<=b/\b<=2):0<=kd op nm a b c/\kd op nm a b c<=2:=by
 unfold kd
 grind
def Ox(ks:List Int)(i:Int):Int:=if i<0 then 0 else ks.getD i.toNat 0
def M7(names:List (List UInt8))(n:XN)(ks:List Int):Int:=kd n.op (names.contains n.name) (Ox ks n.a) (Ox ks n.b) (Ox ks n.c)
def goN(names:List (List UInt8)):List XN->Int->List Int->List Int×Int×Int
 |[],_,acc=>(acc,0,0)
 |n::r,i,acc=>if M7 names n acc=0 then([],i,90)else goN names r (i+1) (acc++[M7 names n acc])
def Zf6(k:Nat)(n:XN):Prop:=Sd n=true/\(0<Ya n.op->0<=n.a/\n.a<k)/\(1<Ya n.op->0<=n.b/\n.b<k)/\(2<Ya n.op->0<=n.c/\n.c<k) /\
 (¬ 0<Ya n.op->n.a = -1)/\(¬ 1<Ya n.op->n.b = -1)/\(¬ 2<Ya n.op->n.c = -1)
theorem Zv0{x y:X}{b i:Nat}(j:x.ok=true)(h:Sub x y b)(hi:b+y.size=i+1):Zf6 i (y.top b):=by
 have f:=h.ok j
 cases y with
 |leaf op num name=>
  simp only[X.ok,Bool.and_eq_true,decide_eq_true_eq]at f
  have e:Ya op=0:=by unfold Ya;rw[if_pos f.2]
  refine⟨f.1,?_⟩;simp only[X.top,e];exact⟨λh=>absurd h (by decide),λh=>absurd h (by decide),λh=>absurd h (by decide),λ_=>trivial,λ_=>trivial,λ_=>trivial⟩
 |un op a=>
  simp only[X.ok,Bool.and_eq_true,decide_eq_true_eq]at f
  have e:Ya op=1:=by unfold Ya;rw[if_neg (by omega),if_pos (by omega)]
  have g:=a.size_pos;simp only[X.size]at hi;refine⟨A3 (by omega) _ _ _,?_⟩;simp only[X.top,e];exact⟨λ_=>by omega,λh=>absurd h (by decide),λh=>absurd h (by decide),λh=>absurd (by decide) h,λ_=>trivial,λ_=>trivial⟩
 |bin op a c=>
  simp only[X.ok,Bool.and_eq_true,decide_eq_true_eq]at f
  have e:Ya op=2:=by unfold Ya;rw[if_neg (by omega),if_neg (by omega),if_pos (by omega)]
  have g:=a.size_pos;simp only[X.size]at hi;refine⟨A3 (by omega) _ _ _,?_⟩;simp only[X.top,e];exact⟨λ_=>by omega,λ_=>by omega,λh=>absurd h (by decide),λh=>absurd (by decide) h,λh=>absurd (by decide) h,λ_=>trivial⟩
 |ite a c d=>
  have e:Ya 22=3:=by decide
  have g:=a.size_pos;simp only[X.size]at hi;refine⟨A3 (by decide) _ _ _,?_⟩;simp only[X.top,e];exact⟨λ_=>by omega,λ_=>by omega,λ_=>by omega,λh=>absurd (by decide) h,λh=>absurd (by decide) h,λh=>absurd (by decide) h⟩
theorem Zw0{l:List XN}(h:Vt l≠0){i:Nat}{n:XN}(a:l[i]?=some n):Zf6 i n:=by
 obtain⟨x,c,rfl⟩:=Zip h
 have d:i<x.size:=by rw[<- X.row_len x 0];grind
 obtain⟨y,b,g,f,j,e⟩:=sub_at x i d;rw[e]at a;cases a;exact Zv0 c g f
end Go.Hs
end

section
namespace Go.Hs
open Go.Proofs
set_option maxHeartbeats 1000000
set_option maxRecDepth 10000
def ruleC:List V:=[0,0,0,0,0,0,0,1,0,0,0,1,0,0,0,2,0,0,0,2,1,0,0,1,2,0,0,2,1,1,0,1,1,1,0,1,1,1,0,1,1,1,0,1,1,1,0,1,1,1,0,2,1,1,0,2,1,1,0,2,1,1,0,2,3,3,0,2,3,3,0,2,2,2,0,2,2,2,0,2,2,2,0,2,2,2,0,2,2,3,3,3].map (V.int .u8)
def Fx(op:Nat):Int:=if op<=4 then 0 else if op=5\/(7<=op/\op<=15)then 1 else if op=16\/op=17 then 3 else 2
def Zof(op:Nat):Int:=if op<=6 then 0 else if op<=15 then 1 else if op<=17\/op=22 then 3 else 2
def Fw(op:Nat):Int:=if op=22 then 3 else 0
def Z2s(op:Nat):Int:=if op=0 then 0 else if op<=2 then 1 else if op=22 then 3 else if op=5\/(7<=op/\op<=11)then 1 else 2
theorem Z1u(op:Nat)(h:op<23):(ruleC.drop (op*4)).take 4=[.int .u8 (Fx op),.int .u8 (Zof op),.int .u8 (Fw op),.int .u8 (Z2s op)]:=by
 match op,h with
 |0,_=>rfl
 |1,_=>rfl
 |2,_=>rfl
 |3,_=>rfl
 |4,_=>rfl
 |5,_=>rfl
 |6,_=>rfl
 |7,_=>rfl
 |8,_=>rfl
 |9,_=>rfl
 |10,_=>rfl
 |11,_=>rfl
 |12,_=>rfl
 |13,_=>rfl
 |14,_=>rfl
 |15,_=>rfl
 |16,_=>rfl
 |17,_=>rfl
 |18,_=>rfl
 |19,_=>rfl
 |20,_=>rfl
 |21,_=>rfl
 |22,_=>rfl
 |n+23,h=>omega
theorem Z8e(G:Nat->V)(a:Y6 G):Spec Tryz.prog G 262 [] Zi (λv _=>v=.agg ruleC):=by
 refine Zo 0 39 [.cell 0 303] Tryz.func262 λX=>?_;refine Z1 ?_;intro f;refine Z1 ?_;intro e d;refine Z1 ?_;intro c b;exact Zr
theorem Zs4(G:Nat->V)(p:Y6 G)(c:Col)(t:List UInt8)(s:Sl (List UInt8))(n:s.l.length<1000000):
  Spec Tryz.prog G 295 [.str t,Za c 1 V.str s] Zi (λv _=>v=.bool (s.l.contains t)):=by
 refine Zo 0 18 [.tmp 4] Tryz.func295 λX=>?_;refine Z1 ?_;refine Z1 ?_;refine AW.block ?_
 refine Yf s.l.length (λk (_:Unit)=>st [(0,.str t),(1,Za c 1 V.str s),(5,.int .i64 k)] []) (λk _=>(s.l.take k).contains t=false) 0 () (Nat.zero_le _) rfl
  (Weak.st zp zp) ?_
 intro k _ o f q g;refine Z1 ?_;refine Zm rfl (λi=>?_) (λi=>?_);have a:k<s.l.length:=zu i;have j:=List.getElem?_eq_getElem a
 have e:s.l.take (k+1)=s.l.take k++[s.l[k]]:=by rw[List.take_succ_eq_append_getElem a]
 have b:=List.getElem_mem a;generalize s.l[k]=x at j e b;refine Xc j ?_;refine Zm rfl (λd=>?_) (λd=>?_);have d:x=t:=zu d;refine Z ?_
 have:s.l.contains t=true:=by rw[<- d];simpa using b
 rw[this];have d:¬ x=t:=zu d;refine Z1 ?_;refine g _ ⟨a,(),?_,Weak.st zw zp⟩;rw[e];simp only[List.contains_eq_mem,decide_eq_false_iff_not]at f⊢;intro m
 rcases List.mem_append.1 m with h|h
 exact f h;exact d ((List.mem_singleton.1 h).symm)
 have a:k=s.l.length:=by simp at i;omega
 refine Z ?_;rw[a,List.take_length]at f;rw[f]
theorem Zja(G:Nat->V)(q:Y6 G)(c:Col)(t:List UInt8)(s:Sl (List UInt8))(o:s.l.length<1000000):
  Spec Tryz.prog G 210 [Za c 1 V.str s,.str t] Zi (λv _=>∃ i:Int,v=.int .i64 i/\decide (i>=0)=s.l.contains t):=by
 refine Zo 0 19 [.tmp 4] Tryz.func210 λX=>?_;refine Z1 ?_;refine Z1 ?_;refine AW.block ?_
 refine Yf s.l.length (λk (_:Unit)=>st [(0,Za c 1 V.str s),(1,.str t),(7,.int .i64 s.l.length),(8,.int .i64 k)] []) (λk _=>(s.l.take k).contains t=false) 0 () (Nat.zero_le _) rfl
  (Weak.st zp zp) ?_
 intro k _ p f r g;refine Z1 ?_;refine Z4 ?_;refine Zm rfl (λj=>?_) (λj=>?_);have a:k<s.l.length:=zu j;have m:=List.getElem?_eq_getElem a
 have e:s.l.take (k+1)=s.l.take k++[s.l[k]]:=by rw[List.take_succ_eq_append_getElem a]
 have b:=List.getElem_mem a;generalize s.l[k]=x at m e b;refine Z1 ?_;refine Xc m ?_;refine Zm rfl (λd=>?_) (λd=>?_);have d:t=x:=zu d;refine Z ?_
 have:s.l.contains t=true:=by rw[d];simpa using b
 rw[this];exact⟨_,rfl,by rw[decide_eq_true_iff];omega⟩;have d:¬ t=x:=zu d;refine Z1 ?_;refine g _ ⟨a,(),?_,Weak.st zw zp⟩;rw[e];simp only[List.contains_eq_mem,decide_eq_false_iff_not]at f⊢;intro n
 rcases List.mem_append.1 n with h|h
 exact f h;exact d (List.mem_singleton.1 h)
 have a:k=s.l.length:=by simp at j;omega
 refine Z ?_;rw[a,List.take_length]at f;rw[f];exact⟨_,rfl,rfl⟩
theorem Ui(G:Nat->V)(a:Y6 G)(c:Col)(t:List UInt8)(s:Sl (List UInt8))(b:s.l.length<1000000):
  Spec Tryz.prog G 153 [Za c 1 V.str s,.str t] Zi (λv _=>v=.bool (s.l.contains t)):=by
 refine Zo 0 9 [.tmp 4] Tryz.func153 λX=>?_;refine Z1 ?_;refine Z1 ?_;refine CallA.pure a zk ?_;refine Zs ?_;refine(Zja G a _ t s b).mono ?_;rintro _ _ ⟨i,rfl,d⟩;refine Zs ?_;refine Z ?_;rw[d]
theorem Zpz(G:Nat->V)(j:Y6 G)(c:Col)(s:Sl Int)(h:s.l.length<1000000)(i:Int)(hi:i<0\/0<=i/\i<s.l.length):
  Spec Tryz.prog G 283 [.int .i64 i,.view .old (Za c 1 (V.int .u8) s)] Zi (λv _=>v=.int .u8 (Ox s.l i)):=by
 refine Zo 0 10 [.tmp 3] Tryz.func283 λX=>?_
 have a:Ox s.l i=if i<0 then 0 else s.l.getD i.toNat 0:=rfl
 generalize Ox s.l i=f at a⊢;refine Z1 ?_;refine Z1 ?_;refine Zm rfl (λb=>?_) (λb=>?_);have b:i<0:=zu b;rw[if_pos b]at a;refine Z ?_;rw[a];have b:¬ i<0:=zu b;rw[if_neg b]at a;obtain⟨m,rfl⟩:∃ m:Nat,i=m:=⟨i.toNat,zo⟩;have g:m<s.l.length:=zo;have e:=List.getElem?_eq_getElem g
 have d:s.l.getD ((m:Nat):Int).toNat 0=s.l[m]:=by rw[Int.toNat_natCast,List.getD_eq_getElem?_getD,e]<;>rfl
 rw[d]at a;generalize s.l[m]=x at e a;refine Zf e ?_;rw[a]
structure MdB(m:MdM):Prop where
 nm:m.name.length<1000000000000000
 var:∀ p∈m.vars.l,p.1.length<1000000000000000
 ev:∀ s∈m.events.l,s.length<1000000000000000
 rg:∀ p∈m.regions.l,p.1.length<1000000000000000
 vt:∀ x∈m.verts.l,x.name.length<1000000000000000/\x.sub.length<1000000000000000/\x.defers.l.length<1000000
 wy:∀ t∈m.ways.l,t.name.length<1000000000000000/\t.triggers.l.length<1000000
 nv:m.vars.l.length<=600
 ne:m.events.l.length<=600
 nr:m.regions.l.length<=600
 nx:m.verts.l.length<=600
 nw:m.ways.l.length<=600
theorem To(G:Nat->V)(a:GExp G)(s:List UInt8)(b:s.length<1000000000000000):Spec Tryz.prog G 156 [.str s] Zi (λv _=>v=.bool (Tb s)):=by
 have c:=a.ok;refine Zo 0 10 [.tmp 2] Tryz.func156 λX=>?_;rw[Tb]
 cases h:(s==[])with
 |true=>exact Zq h
 |false=>
  refine Zf h ?_;refine Zc c ?_ (s:=Sz G a s b);refine Z ?_;rw[Bool.false_or,show((Rh s:Int)==2)=(Rh s==2)from by rw[Bool.eq_iff_iff,beq_iff_eq,beq_iff_eq];omega]
theorem Nh(G:Nat->V)(c d:Col)(m:MdM)(v:Int):Spec Tryz.prog G 157 [Zv c d m,.int .i64 v] Zi (λw _=>w=.bool (m.p.stateB v)):=by
 refine Zo 0 23 [.tmp 4] Tryz.func157 λX=>?_;simp only[Zd];refine Z1 ?_;intro j;rw[PM.stateB]
 by_cases f:0<=v
 by_cases b:v<m.p.vertices.length
 obtain⟨k,x,rfl,h,i,g⟩:=MdM.at f b;rw[g,decide_eq_true f,decide_eq_true b,Bool.true_and,Bool.true_and];have a:decide ((k:Int)>=0)=true:=zT;have e:decide ((k:Int)<(m.verts.l.length:Int))=true:=zT;refine Zf (zi i (zi h (zi Zt (zi @Int.natCast_nonneg (zi @Int.ofNat_lt (zi a e)))))) ?_;rfl;have a:decide (v>=0)=true:=zT;have e:decide (v<(m.verts.l.length:Int))=false:=decide_eq_false (by rw[<- m.nv];exact b);rw[decide_eq_false b,Bool.and_false,Bool.false_and];exact Zq (zi a e);have a:decide (v>=0)=false:=zF;rw[decide_eq_false f,Bool.false_and,Bool.false_and];exact Zq a
theorem Zdp{ev l:List (List UInt8)}:evB ev l=true↔∀ i s,l[i]?=some s->ev.contains s=true/\(l.take i).contains s=false:=by
 rw[evB,List.all_eq_true]
 constructor
 intro h i s d;have c:i<l.length:=(List.getElem?_eq_some_iff.1 d).1;have:=h i (List.mem_range.2 c);rw[List.getD_eq_getElem?_getD,d]at this;simpa using this;intro h i c;have c:=List.mem_range.1 c;obtain⟨a,b⟩:=h i _ (List.getElem?_eq_getElem c);rw[List.getD_eq_getElem?_getD,List.getElem?_eq_getElem c]
 show(ev.contains l[i] && !(l.take i).contains l[i])=true
 rw[a,b]<;>rfl
theorem J2{α : Type}(s:Sl α)(k:Nat):(s.sub 0 k).l=s.l.take k:=by
 cases s with
 |nil=>simp[Sl.sub,Sl.l]
 |mk b l=>simp[Sl.sub,Sl.l]
theorem Od(G:Nat->V)(j:Y6 G)(c d c1:Col)(m:MdM)(l:Sl (List UInt8))(y:m.events.l.length<1000000)(A:l.l.length<1000000):
  Spec Tryz.prog G 161 [Zv c d m,Za c1 1 V.str l] Zi (λw _=>w=.bool (evB m.events.l l.l)):=by
 refine Zo 0 27 [.tmp 4] Tryz.func161 λX=>?_;simp only[Zd];refine Z ?_;intro D;refine AW.weak (Zw (λo=>o==2) (l:=[(1,Za c1 1 V.str l),(2,.view .new (Zv c d m)),(4,.bool false)]) (m:=[]) ?_ trivial) ?_;refine Zs ?_;exact⟨Fz.same _,Fz.ptr (v:=Zv c d m) (c:=.new) (fz:=0) zp zp,Fz.same _⟩;simp only[Zd];refine Z ?_
 refine Yf l.l.length (λk (_:Unit)=>st [(1,Za c1 1 V.str l),(2,.view .new (Zv c d m)),(7,Za c1 1 V.str l),(8,.int .i64 l.l.length),(9,.int .i64 k)] [])
  (λk _=>∀ i s,i<k->l.l[i]?=some s->m.events.l.contains s=true/\(l.l.take i).contains s=false) 0 () (Nat.zero_le _) (λi s h=>absurd h (Nat.not_lt_zero _)) (Weak.st (V9 Zd) zp) ?_
 intro k _ B q E p
 by_cases b:k<l.l.length
 .have a:decide ((k:Int)<(l.l.length:Int))=true:=zT
  have f:=List.getElem?_eq_getElem b;generalize l.l[k]=x at f;have u:IntKind.i64.wrap ((k:Int)+1)=(k:Int)+1:=W0 zo zo;refine Zf (zi a (zi f Zd)) ?_;refine Zc j ?_ (s:=Ui G j _ x m.events y)
  cases t:m.events.l.contains x with
  |false=>
   refine Zs ?_;refine Z ?_
   have:evB m.events.l l.l=false:=by
    rw[Bool.eq_false_iff];intro h;have:=(Zdp.1 h k x f).1;rw[t]at this;cases this
   rw[this]
  |true=>
   refine Zs ?_;refine Xw (zi (Nat.zero_le k) (Nat.le_of_lt b)) ?_;have g:=Ui G j c1.ent x (l.sub 0 k) (by rw[J2];simp;omega);rw[J2]at g;refine Zc j ?_ (s:=g)
   cases r:(l.l.take k).contains x with
   |true=>
    refine Z ?_
    have:evB m.events.l l.l=false:=by
     rw[Bool.eq_false_iff];intro h;have:=(Zdp.1 h k x f).2;rw[r]at this;cases this
    rw[this]
   |false=>
    refine Zf u ?_;refine p _ ⟨b,(),λi s C e=>?_,Weak.st (V9 Zd) zp⟩
    by_cases z:i=k
    subst z;rw[f]at e;obtain rfl:=Option.some.inj e;exact⟨t,r⟩;exact q i s zo e
 have n:k=l.l.length:=zo;subst n;have a:decide ((l.l.length:Int)<(l.l.length:Int))=false:=zS;refine Zf a ?_;rw[Zdp.2 λi s e=>q i s (List.getElem?_eq_some_iff.1 e).1 e]
theorem Zio(G:Nat->V)(k:Y6 G)(c d e:Col)(m:MdM)(x:VtM):Spec Tryz.prog G 160 [Zv c d m,Y0 e x] Zi (λw _=>w=.bool (m.p.liesB x.p)):=by
 refine Zo 0 38 [.tmp 4] Tryz.func160 λX=>?_;simp only[Zd,Zt];refine Z ?_;intro r o;rw[PM.liesB]
 cases a:(x.kind==10)with
 |true=>
  have j:x.kind=10:=zu a;rw[if_pos (show x.p.kind=10\/x.p.kind=11 from .inl j)]
  show AW _ _ _ (Tr _ _ λw _=>w=.bool ((x.region == -1)&&m.p.stateB x.of)) _
  cases g:(x.region == -1)with
  |false=>exact Zq (zi a (zi Zt g))
  |true=>
   refine Zf (zi a (zi Zt g)) ?_;refine Zc k ?_ (s:=Nh G c.ent d.ent m x.of);refine Z ?_;rw[Bool.true_and]
 |false=>
  have j:¬ x.kind=10:=zu a
  cases b:(x.kind==11)with
  |true=>
   have i:x.kind=11:=zu b;rw[if_pos (show x.p.kind=10\/x.p.kind=11 from .inr i)]
   show AW _ _ _ (Tr _ _ λw _=>w=.bool ((x.region == -1)&&m.p.stateB x.of)) _
   cases g:(x.region == -1)with
   |false=>exact Zq (zi (zi a b) (zi Zt g))
   |true=>
    refine Zf (zi (zi a b) (zi Zt g)) ?_;refine Zc k ?_ (s:=Nh G c.ent d.ent m x.of);refine Z ?_;rw[Bool.true_and]
  |false=>
   have i:¬ x.kind=11:=zu b;rw[if_neg (show ¬ (x.p.kind=10\/x.p.kind=11)from λh=>h.elim j i)]
   show AW _ _ _ (Tr _ _ λw _=>w=.bool ((x.of == -1)&&decide (0<=x.region)&&decide (x.region<m.regions.l.length))) _
   have f:=zi a (zi b Zt)
   cases g:(x.of == -1)with
   |false=>exact Zq (zi f g)
   |true=>
    by_cases n:0<=x.region
    have q:decide (x.region>=0)=true:=zT;rw[decide_eq_true n];exact Zq (zi f (zi g q));have q:decide (x.region>=0)=false:=zF;rw[decide_eq_false n];exact Zq (zi f (zi g q))
theorem Ztg(G:Nat->V)(g:Y6 G)(c d:Col)(m:MdM)(j:m.p.Rt5)(v:Int)(x:0<=v)(u:v<m.p.vertices.length):
  Spec Tryz.prog G 163 [Zv c d m,.int .i64 v] Zi (λw _=>w=.int .i64 (m.p.depth v)):=by
 refine Zo 0 21 [.tmp 4] Tryz.func163 λX=>?_;simp only[Zd];refine Z ?_;intro C;refine AW.weak (Zw (λo=>o==2) (l:=[(1,.int .i64 v),(2,.view .new (Zv c d m))]) (m:=[]) ?_ trivial) ?_;refine Zs ?_;exact⟨Fz.same _,Fz.ptr (v:=Zv c d m) (c:=.new) (fz:=0) zp zp⟩;simp only[Zd];refine Z ?_;refine Zc g ?_ (s:=K6 G g c.ent d.ent m j v x u);refine Z ?_
 refine Vz (fun(y:Nat×Int)=>st [(1,.int .i64 (m.p.around y.2)),(2,.view .new (Zv c d m)),(5,.int .i64 y.1)] [])
  (λy=>y.1<=65/\0<=y.2/\y.2<m.p.vertices.length/\m.p.depth v=y.1+(m.p.upsF (65-y.1) y.2).length) (λy=>65-y.1) (0,v) ⟨Nat.zero_le _,x,u,by rw[Nat.zero_add]<;>rfl⟩ (Weak.st (V9 Zd) zp) ?_
 rintro⟨n,w⟩ ⟨A,w0,r,e⟩ D k;simp only at A w0 r e
 by_cases t:0<=m.p.around w
 have b:decide (m.p.around w>=0)=true:=zT
 by_cases z:n<=64
 have i:decide ((n:Int)<=64)=true:=zT;have B:IntKind.i64.wrap ((n:Int)+1)=(n:Int)+1:=W0 zo zo
 have a:m.p.around w<m.p.vertices.length:=by
  rcases j.rng w0 r with q|q
  omega;exact q.2
 refine Zf (zi b (zi i (zi B Zd))) ?_;refine Zc g ?_ (s:=K6 G g c.ent d.ent m j (m.p.around w) t a);refine Z ?_;refine k _ ⟨(n+1,m.p.around w),by show 65-(n+1)<65-n;omega,⟨by show n+1<=65;omega,t,a,?_⟩,Weak.st (V9 Zd) zp⟩
 show m.p.depth v=n+1+(m.p.upsF (65-(n+1)) (m.p.around w)).length
 rw[e,show 65-n=(65-(n+1))+1 by omega,PM.upsF,if_neg zo,List.length_cons];omega;have i:decide ((n:Int)<=64)=false:=zF;refine Zf (zi b i) ?_
 rw[e,show 65-n=0 by omega]<;>rfl
 have b:decide (m.p.around w>=0)=false:=zF;refine Zf b ?_
 have:m.p.upsF (65-n) w=[]:=by
  cases h:65-n with
  |zero=>rfl
  |succ f=>rw[PM.upsF,if_pos zo]
 rw[e,this]<;>rfl
def Ds(c d e:Col)(m:MdM)(ns vs:Sl (List UInt8)):V:=.agg [.str m.name,Za c 2 Yw m.vars,Za c 1 V.str m.events,Za c 2 Yw m.regions,Za c 8 (Y0 d) m.verts,Za c 8 (Xp d) m.ways,Za e 1 V.str ns,Za e 1 V.str vs]
theorem Z3t(c d e:Col)(m:MdM)(a vs:Sl (List UInt8)):Ds c d e m a vs=.agg [.str m.name,Za c 2 Yw m.vars,Za c 1 V.str m.events,Za c 2 Yw m.regions,Za c 8 (Y0 d) m.verts,Za c 8 (Xp d) m.ways,Za e 1 V.str a,Za e 1 V.str vs]:=rfl
theorem Zh0(g:Col->Col)(c d e:Col)(m:MdM)(a vs:Sl (List UInt8)):(Ds c d e m a vs).recol g=Ds (g c) (g d) (g e) m a vs:=by simp only[Z3t,Xy,List.map_cons,List.map_nil,Vk,Ta,Ma,N9,Mb]
def Vm(b c d e:Col)(m:MdM)(ns vs:Sl (List UInt8)):V:=.view b (Ds c d e m ns vs)
theorem Xh(b c d e:Col)(m:MdM)(a vs:Sl (List UInt8)):Vm b c d e m a vs=.view b (.agg [.str m.name,Za c 2 Yw m.vars,Za c 1 V.str m.events,Za c 2 Yw m.regions,Za c 8 (Y0 d) m.verts,Za c 8 (Xp d) m.ways,Za e 1 V.str a,Za e 1 V.str vs]):=rfl
@[go_sem] theorem Q7(g:Col->Col)(b c d e:Col)(m:MdM)(a vs:Sl (List UInt8)):(Vm b c d e m a vs).recol g=Vm (g b) (g c) (g d) (g e) m a vs:=by
 show(V.view b (Ds c d e m a vs)).recol g=_
 simp only[V.recol,Zh0];rfl
theorem Z23(p:List UInt8×Int):∀ y∈(Yw p).cells,y.Im:=λy a=>by
 simp only[Wn,V.cells,List.mem_cons,List.not_mem_nil,or_false]at a
 rcases a with rfl|rfl<;>first|exact .int _ _|exact .str _
theorem Zpu(s:List UInt8):∀ y∈(V.str s).cells,y.Im:=λy a=>by
 simp only[V.cells,List.mem_cons,List.not_mem_nil,or_false]at a;rw[a];exact .str _
theorem vtIm(c:Col)(x:VtM):∀ y∈(Y0 c x).cells,y.Im:=λy a=>by
 simp only[Zt,V.cells,List.mem_cons,List.not_mem_nil,or_false]at a
 rcases a with rfl|rfl|rfl|rfl|rfl|rfl|rfl|rfl<;>first|exact .int _ _|exact .str _|exact V8 Zpu _
theorem trIm(c:Col)(x:TrM):∀ y∈(Xp c x).cells,y.Im:=λy a=>by
 simp only[Z8,V.cells,List.mem_cons,List.not_mem_nil,or_false]at a
 rcases a with rfl|rfl|rfl|rfl|rfl|rfl|rfl|rfl<;>first|exact .int _ _|exact .str _|exact V8 Zpu _
theorem Ok(b c d e:Col)(m:MdM)(f vs:Sl (List UInt8)):(Vm b c d e m f vs).Im:=.view _ _ λy a=>by
 simp only[Z3t,V.cells,List.mem_cons,List.not_mem_nil,or_false]at a
 rcases a with rfl|rfl|rfl|rfl|rfl|rfl|rfl|rfl
 exact .str _;exact V8 Z23 _;exact V8 Zpu _;exact V8 Z23 _;exact V8 (vtIm d) _;exact V8 (trIm d) _;exact V8 Zpu _;exact V8 Zpu _
theorem Vv(G:Nat->V)(E:Y6 G)(b c d e:Col)(m:MdM)(u vs:Sl (List UInt8))(B:m.p.Rt5)(v:Int)(o:0<=v)(n:v<m.p.vertices.length):
  Spec Tryz.prog G 212 [Vm b c d e m u vs,.int .i64 v] Zi (λw _=>w=.int .i64 (m.p.around v)):=by
 refine Zo 0 36 [.tmp 4] Tryz.func212 λX=>?_;have a:=B.pt o n;obtain⟨k,x,rfl,C,D,A⟩:=MdM.at o n;rw[PM.around];rw[A]at a⊢;simp only[Xh];have f:=zi D (zi C (zi Zt (zi @Int.natCast_nonneg @Int.ofNat_lt)));refine Zf f ?_;intro F
 by_cases l:0<=x.of
 have q:decide (x.of>=0)=true:=zT;refine Zf (zi f q) ?_
 rw[if_pos (show 0<=x.p.of from l)]<;>rfl
 have q:decide (x.of>=0)=false:=zF;obtain⟨_,t,s,_⟩:=a.resolve_left (λh=>l h.1);obtain⟨r,y,j,g,i,z⟩:=Cd t s;rw[if_neg (show ¬ 0<=x.p.of from l),z];have j:x.region=(r:Int):=j;refine Zf q ?_;refine Ha (zi f (zi j (zi i (zi g Wn)))) E ?_;exact Zr
theorem Jl(G:Nat->V)(n:Y6 G)(b c d e:Col)(m:MdM)(k vs:Sl (List UInt8))(f:m.p.Rt)(v s:Int)(x:0<=v)(u:v<m.p.vertices.length):
  Spec Tryz.prog G 174 [Vm b c d e m k vs,.int .i64 v,.int .i64 s] Zi (λw _=>w=.bool (m.p.inB v s)):=by
 refine Zo 0 18 [.tmp 6] Tryz.func174 λX=>?_;refine Z ?_;refine Zc n ?_ (s:=Vv G n _ _ _ _ m k vs f.toRt5 v x u);refine Z ?_;refine Vz (fun(w:Int)=>st [(0,Vm b c d e m k vs),(1,.int .i64 (m.p.around w)),(2,.int .i64 s)] []) (λw=>0<=w/\w<m.p.vertices.length/\m.p.inB v s=m.p.inB w s) (λw=>(m.p.ups w).length) v ⟨x,u,rfl⟩ (Weak.st zp zp) ?_;rintro w ⟨w0,o,r⟩ y t
 by_cases l:0<=m.p.around w
 have j:decide (m.p.around w>=0)=true:=zT
 have h:m.p.around w<m.p.vertices.length:=by
  rcases f.acy.rng w w0 o with q|q
  omega;exact q.2
 have g:=congrArg List.length (f.acy.ups_cons w0 o l);rw[List.length_cons]at g;have a:=f.acy.inB_up (s:=s) w0 o l;cases i:(m.p.around w==s);rw[i,Bool.false_or]at a;refine Zf (zi j i) ?_;refine Zc n ?_ (s:=Vv G n _ _ _ _ m k vs f.toRt5 (m.p.around w) l h);refine Z ?_;exact t _ ⟨m.p.around w,zo,⟨l,h,by rw[r,a]⟩,Weak.st zp zp⟩;rw[i,Bool.true_or]at a;rw[r,a];exact Zq (zi j i);have j:decide (m.p.around w>=0)=false:=zF;rw[r,PM.inB_nil zo];exact Zq j
theorem Jj(G:Nat->V)(n:Y6 G)(b c d e:Col)(m:MdM)(j vs:Sl (List UInt8))(g:m.p.Rt)(v s:Int)(H:0<=v)(F:v<m.p.vertices.length)(C:0<=s):
  Spec Tryz.prog G 175 [Vm b c d e m j vs,.int .i64 v,.int .i64 s] Zi (λw _=>w=.int .i64 (m.p.regU v s)):=by
 refine Zo 0 30 [.tmp 6] Tryz.func175 λX=>?_;refine Z ?_;refine Vz (fun(w:Int)=>st [(0,Vm b c d e m j vs),(1,.int .i64 w),(2,.int .i64 s)] []) (λw=>(w = -1/\m.p.regU v s = -1)\/(0<=w/\w<m.p.vertices.length/\m.p.regU v s=m.p.regU w s)) (λw=>if w<0 then 0 else(m.p.ups w).length+1) v (.inr ⟨H,F,rfl⟩) (Weak.st zp zp) ?_;rintro w f I i
 rcases f with ⟨rfl,f⟩|⟨w0,a,f⟩
 rw[f];exact Zr;have A:decide (w>=0)=true:=zT;refine Zf A ?_;refine Zc n ?_ (s:=Vv G n _ _ _ _ m j vs g.toRt5 w w0 a)
 by_cases l:m.p.around w=s
 rw[f,PM.Acy.regU_at l];obtain⟨k,x,r,D,E,B⟩:=MdM.at w0 a;rw[B];subst r
 have o:(m.p.around (k:Int) != s)=false:=by simp[l]
 have z:decide ((k:Int)<0)=false:=zF;exact Zh (zi o (zi z (zi E (zi D (zi Zt (zi Xh (zi @Int.natCast_nonneg @Int.ofNat_lt)))))));have o:(m.p.around w != s)=true:=zu l;refine Zg o ?_;refine Zc n ?_ (s:=Vv G n _ _ _ _ m j vs g.toRt5 w w0 a);refine Z ?_
 by_cases y:0<=m.p.around w
 have u:m.p.around w<m.p.vertices.length:=by
  rcases g.acy.rng w w0 a with q|q
  omega;exact q.2
 have h:=congrArg List.length (g.acy.ups_cons w0 a y);rw[List.length_cons]at h;refine i _ ⟨m.p.around w,by simp only[if_neg (show ¬ m.p.around w<0 by omega),if_neg (show ¬ w<0 by omega)];omega,.inr ⟨y,u,by rw[f,g.acy.regU_up w0 a y l]⟩,Weak.st zp zp⟩
 have t:m.p.around w = -1:=by
  rcases g.acy.rng w w0 a with q|q
  exact q;omega
 rw[t];refine i _ ⟨-1,by simp only[if_neg (show ¬ w<0 by omega)];exact Nat.succ_pos _,.inl ⟨rfl,by rw[f,PM.regU_nil zo C]⟩,Weak.st zp zp⟩
theorem Ji(G:Nat->V)(E:Y6 G)(b c d e:Col)(m:MdM)(t vs:Sl (List UInt8))(h:m.p.Rt)(v r:Int)(J:0<=v)(I:v<m.p.vertices.length):
  Spec Tryz.prog G 169 [Vm b c d e m t vs,.int .i64 v,.int .i64 r] Zi (λw _=>w=.bool (m.p.withinB v r)):=by
 refine Zo 0 27 [.tmp 6] Tryz.func169 λX=>?_;refine Z ?_;refine Vz (fun(w:Int)=>st [(0,Vm b c d e m t vs),(1,.int .i64 w),(2,.int .i64 r)] []) (λw=>(w = -1/\m.p.withinB v r=false)\/(0<=w/\w<m.p.vertices.length/\m.p.withinB v r=m.p.withinB w r)) (λw=>if w<0 then 0 else(m.p.ups w).length+1) v (.inr ⟨J,I,rfl⟩) (Weak.st zp zp) ?_;rintro w f L j
 rcases f with ⟨rfl,f⟩|⟨w0,a,f⟩
 rw[f];exact Zr;have K:decide (w>=0)=true:=zT;obtain⟨k,x,g,C,D,B⟩:=MdM.at w0 a
 by_cases l:x.region=r
 have o:(x.region != r)=false:=by simp[l]
 have H:m.p.withinB w r=true:=by
  rw[PM.withinB,List.any_cons,B,show(x.p.region==r)=true from beq_iff_eq.2 l,Bool.true_or]
 rw[f,H];subst g;have n:decide ((k:Int)>=0)=true:=zT;exact Zq (zi n (zi o (zi D (zi C (zi Zt (zi Xh (zi @Int.natCast_nonneg @Int.ofNat_lt)))))));have o:(x.region != r)=true:=zu l
 have A:((m.p.vx w).region==r)=false:=by rw[B];exact beq_eq_false_iff_ne.2 l
 subst g;have n:decide ((k:Int)>=0)=true:=zT;refine Zf (zi n (zi o (zi D (zi C (zi Zt (zi Xh (zi @Int.natCast_nonneg @Int.ofNat_lt))))))) ?_;refine Zc E ?_ (s:=Vv G E _ _ _ _ m t vs h.toRt5 k w0 a);refine Z ?_
 by_cases z:0<=m.p.around k
 have F:=a
 have y:m.p.around k<m.p.vertices.length:=by
  rcases h.acy.rng k w0 a with q|q
  omega;exact q.2
 have i:=congrArg List.length (h.acy.ups_cons w0 a z);rw[List.length_cons]at i;refine j _ ⟨m.p.around k,by simp only[if_neg (show ¬ m.p.around k<0 by omega),if_neg (show ¬ (k:Int)<0 by omega)];omega,.inr ⟨z,y,by rw[f,h.acy.withinB_up w0 a z,A,Bool.false_or]⟩,Weak.st zp zp⟩
 have u:m.p.around k = -1:=by
  rcases h.acy.rng k w0 a with q|q
  exact q;omega
 rw[u];refine j _ ⟨-1,by simp only[if_neg (show ¬ (k:Int)<0 by omega)];exact Nat.succ_pos _,.inl ⟨rfl,by rw[f,PM.withinB_nil zo,A]⟩,Weak.st zp zp⟩
def Up(r:Nat×Int×Int):V:=.agg [.int .u8 r.1,.int .i64 r.2.1,.int .i64 r.2.2]
structure FnW{α : Type}(G:Nat->V)(f:FuncId)(cap:List V)(enc : α -> V)(l:List α)(p:Nat->Bool):Prop where
 en:Z5 Tryz.prog f=true
 rc:cap.map (V.recol Col.ent)=cap
 sp:∀ (i:Nat) (x : α),l[i]?=some x->Spec Tryz.prog G f (.int .i64 i::enc x::cap) Zi (λv _=>v=.bool (p i))
theorem Ax(G:Nat->V)(z:Y6 G)(c:Col)(b a:Nat)(s:Sl (List UInt8×Int))(C:s.l.length<1000000){f:FuncId}{cap:List V}{p:Nat->Bool}(r:FnW G f cap Yw s.l p):
  Spec Tryz.prog G 147 [.int .u8 b,Za c 2 Yw s,.int .i64 a,.func (.func f) [] cap] Zi (λv _=>v=Up (Y8 b a p s.l.length)):=by
  refine Zo 0 36 [.cell 8 154] Tryz.func147 λX=>?_;refine Z ?_;intro w;refine Z ?_
  refine Yf s.l.length (λk (_:Unit)=>st [(0,.int .u8 b),(1,Za c 2 Yw s),(2,.int .i64 a),(3,.func (.func f) [] cap),(8,.ptr 8 w 0),(11,Za c 2 Yw s),(12,.int .i64 s.l.length),(13,.int .i64 k)] [(8,.cells .new w 0 [.int .u8 0,.int .i64 0,.int .i64 0])])
   (λk _=>∀ i,i<k->i≠a/\p i=true) 0 () (Nat.zero_le _) (λi h=>absurd h (Nat.not_lt_zero _)) (Weak.st zp zp) ?_
  intro k _ D m F t
  by_cases d:k<s.l.length
  have g:decide ((k:Int)<(s.l.length:Int))=true:=zT;have o:=List.getElem?_eq_getElem d;generalize s.l[k]=x at o;have y:IntKind.i64.wrap ((k:Int)+1)=(k:Int)+1:=W0 zo zo;refine Zf (zi g (zi o Wn)) ?_;intro B
  by_cases j:k=a
  have q:((k:Int)==(a:Int))=true:=by simp[j]
  rw[Vd d m (.inl j),if_pos j,j];exact Zh q
  .have q:((k:Int)==(a:Int))=false:=by
    have:¬ (k:Int)=(a:Int):=zo;simpa using this
   refine Zg q ?_;refine Zcf r.rc z ?_ (e:=r.en) (s:=r.sp k x o)
   cases u:p k with
   |false=>
    rw[Vd d m (.inr u),if_neg j];exact Zr
   |true=>
    refine Zf y ?_;refine t _ ⟨d,(),λi E=>?_,Weak.st zp zp⟩
    by_cases A:i=k
    rw[A];exact⟨j,u⟩;exact m i zo
  have n:k=s.l.length:=zo;subst n;have g:decide ((s.l.length:Int)<(s.l.length:Int))=false:=zS;rw[Rw m];exact Zq g
theorem Az(G:Nat->V)(z:Y6 G)(c:Col)(b a:Nat)(s:Sl (List UInt8))(B:s.l.length<1000000){f:FuncId}{cap:List V}{p:Nat->Bool}(r:FnW G f cap V.str s.l p):
  Spec Tryz.prog G 151 [.int .u8 b,Za c 1 V.str s,.int .i64 a,.func (.func f) [] cap] Zi (λv _=>v=Up (Y8 b a p s.l.length)):=by
  refine Zo 0 36 [.cell 8 154] Tryz.func151 λX=>?_;refine Z ?_;intro w;refine Z ?_
  refine Yf s.l.length (λk (_:Unit)=>st [(0,.int .u8 b),(1,Za c 1 V.str s),(2,.int .i64 a),(3,.func (.func f) [] cap),(8,.ptr 8 w 0),(11,Za c 1 V.str s),(12,.int .i64 s.l.length),(13,.int .i64 k)] [(8,.cells .new w 0 [.int .u8 0,.int .i64 0,.int .i64 0])])
   (λk _=>∀ i,i<k->i≠a/\p i=true) 0 () (Nat.zero_le _) (λi h=>absurd h (Nat.not_lt_zero _)) (Weak.st zp zp) ?_
  intro k _ C n E t
  by_cases d:k<s.l.length
  have g:decide ((k:Int)<(s.l.length:Int))=true:=zT;have m:=List.getElem?_eq_getElem d;generalize s.l[k]=x at m;have y:IntKind.i64.wrap ((k:Int)+1)=(k:Int)+1:=W0 zo zo;refine Zf (zi g (zi m m)) ?_
  skip
  by_cases j:k=a
  have q:((k:Int)==(a:Int))=true:=by simp[j]
  rw[Vd d n (.inl j),if_pos j,j];exact Zh q
  .have q:((k:Int)==(a:Int))=false:=by
    have:¬ (k:Int)=(a:Int):=zo;simpa using this
   refine Zg q ?_;refine Zcf r.rc z ?_ (e:=r.en) (s:=r.sp k x m)
   cases u:p k with
   |false=>
    rw[Vd d n (.inr u),if_neg j];exact Zr
   |true=>
    refine Zf y ?_;refine t _ ⟨d,(),λi D=>?_,Weak.st zp zp⟩
    by_cases A:i=k
    rw[A];exact⟨j,u⟩;exact n i zo
  have o:k=s.l.length:=zo;subst o;have g:decide ((s.l.length:Int)<(s.l.length:Int))=false:=zS;rw[Rw n];exact Zq g
theorem A0(G:Nat->V)(z:Y6 G)(c:Col)(b a:Nat)(s:Sl (List UInt8×Int))(C:s.l.length<1000000){f:FuncId}{cap:List V}{p:Nat->Bool}(r:FnW G f cap Yw s.l p):
  Spec Tryz.prog G 154 [.int .u8 b,Za c 2 Yw s,.int .i64 a,.func (.func f) [] cap] Zi (λv _=>v=Up (Y8 b a p s.l.length)):=by
  refine Zo 0 36 [.cell 8 154] Tryz.func154 λX=>?_;refine Z ?_;intro w;refine Z ?_
  refine Yf s.l.length (λk (_:Unit)=>st [(0,.int .u8 b),(1,Za c 2 Yw s),(2,.int .i64 a),(3,.func (.func f) [] cap),(8,.ptr 8 w 0),(11,Za c 2 Yw s),(12,.int .i64 s.l.length),(13,.int .i64 k)] [(8,.cells .new w 0 [.int .u8 0,.int .i64 0,.int .i64 0])])
   (λk _=>∀ i,i<k->i≠a/\p i=true) 0 () (Nat.zero_le _) (λi h=>absurd h (Nat.not_lt_zero _)) (Weak.st zp zp) ?_
  intro k _ D m F t
  by_cases d:k<s.l.length
  have g:decide ((k:Int)<(s.l.length:Int))=true:=zT;have o:=List.getElem?_eq_getElem d;generalize s.l[k]=x at o;have y:IntKind.i64.wrap ((k:Int)+1)=(k:Int)+1:=W0 zo zo;refine Zf (zi g (zi o Wn)) ?_;intro B
  by_cases j:k=a
  have q:((k:Int)==(a:Int))=true:=by simp[j]
  rw[Vd d m (.inl j),if_pos j,j];exact Zh q
  .have q:((k:Int)==(a:Int))=false:=by
    have:¬ (k:Int)=(a:Int):=zo;simpa using this
   refine Zg q ?_;refine Zcf r.rc z ?_ (e:=r.en) (s:=r.sp k x o)
   cases u:p k with
   |false=>
    rw[Vd d m (.inr u),if_neg j];exact Zr
   |true=>
    refine Zf y ?_;refine t _ ⟨d,(),λi E=>?_,Weak.st zp zp⟩
    by_cases A:i=k
    rw[A];exact⟨j,u⟩;exact m i zo
  have n:k=s.l.length:=zo;subst n;have g:decide ((s.l.length:Int)<(s.l.length:Int))=false:=zS;rw[Rw m];exact Zq g
theorem L9(G:Nat->V)(A:Y6 G)(c d:Col)(b a:Nat)(s:Sl VtM)(D:s.l.length<1000000){f:FuncId}{cap:List V}{p:Nat->Bool}(t:FnW G f cap (Y0 d.ent) s.l p):
  Spec Tryz.prog G 158 [.int .u8 b,Za c 8 (Y0 d) s,.int .i64 a,.func (.func f) [] cap] Zi (λv _=>v=Up (Y8 b a p s.l.length)):=by
  refine Zo 0 36 [.cell 8 154] Tryz.func158 λX=>?_;refine Z ?_;intro y;refine Z ?_
  refine Yf s.l.length (λk (_:Unit)=>st [(0,.int .u8 b),(1,Za c 8 (Y0 d) s),(2,.int .i64 a),(3,.func (.func f) [] cap),(8,.ptr 8 y 0),(11,Za c 8 (Y0 d) s),(12,.int .i64 s.l.length),(13,.int .i64 k)] [(8,.cells .new y 0 [.int .u8 0,.int .i64 0,.int .i64 0])])
   (λk _=>∀ i,i<k->i≠a/\p i=true) 0 () (Nat.zero_le _) (λi h=>absurd h (Nat.not_lt_zero _)) (Weak.st zp zp) ?_
  intro k _ E n H u
  by_cases g:k<s.l.length
  have j:decide ((k:Int)<(s.l.length:Int))=true:=zT;have r:=List.getElem?_eq_getElem g;generalize s.l[k]=x at r;have z:IntKind.i64.wrap ((k:Int)+1)=(k:Int)+1:=W0 zo zo;refine Zf (zi j (zi r Zt)) ?_;intro C
  by_cases m:k=a
  have q:((k:Int)==(a:Int))=true:=by simp[m]
  rw[Vd g n (.inl m),if_pos m,m];exact Zh q
  .have q:((k:Int)==(a:Int))=false:=by
    have:¬ (k:Int)=(a:Int):=zo;simpa using this
   refine Zg q ?_;refine Zcf t.rc A ?_ (e:=t.en) (s:=t.sp k x r)
   cases w:p k with
   |false=>
    rw[Vd g n (.inr w),if_neg m];exact Zr
   |true=>
    refine Zf z ?_;refine u _ ⟨g,(),λi F=>?_,Weak.st zp zp⟩
    by_cases B:i=k
    rw[B];exact⟨m,w⟩;exact n i zo
  have o:k=s.l.length:=zo;subst o;have j:decide ((s.l.length:Int)<(s.l.length:Int))=false:=zS;rw[Rw n];exact Zq j
theorem Ay(G:Nat->V)(A:Y6 G)(c d:Col)(b a:Nat)(s:Sl TrM)(D:s.l.length<1000000){f:FuncId}{cap:List V}{p:Nat->Bool}(t:FnW G f cap (Xp d.ent) s.l p):
  Spec Tryz.prog G 165 [.int .u8 b,Za c 8 (Xp d) s,.int .i64 a,.func (.func f) [] cap] Zi (λv _=>v=Up (Y8 b a p s.l.length)):=by
  refine Zo 0 36 [.cell 8 154] Tryz.func165 λX=>?_;refine Z ?_;intro y;refine Z ?_
  refine Yf s.l.length (λk (_:Unit)=>st [(0,.int .u8 b),(1,Za c 8 (Xp d) s),(2,.int .i64 a),(3,.func (.func f) [] cap),(8,.ptr 8 y 0),(11,Za c 8 (Xp d) s),(12,.int .i64 s.l.length),(13,.int .i64 k)] [(8,.cells .new y 0 [.int .u8 0,.int .i64 0,.int .i64 0])])
   (λk _=>∀ i,i<k->i≠a/\p i=true) 0 () (Nat.zero_le _) (λi h=>absurd h (Nat.not_lt_zero _)) (Weak.st zp zp) ?_
  intro k _ E n H u
  by_cases g:k<s.l.length
  have j:decide ((k:Int)<(s.l.length:Int))=true:=zT;have r:=List.getElem?_eq_getElem g;generalize s.l[k]=x at r;have z:IntKind.i64.wrap ((k:Int)+1)=(k:Int)+1:=W0 zo zo;refine Zf (zi j (zi r Z8)) ?_;intro C
  by_cases m:k=a
  have q:((k:Int)==(a:Int))=true:=by simp[m]
  rw[Vd g n (.inl m),if_pos m,m];exact Zh q
  .have q:((k:Int)==(a:Int))=false:=by
    have:¬ (k:Int)=(a:Int):=zo;simpa using this
   refine Zg q ?_;refine Zcf t.rc A ?_ (e:=t.en) (s:=t.sp k x r)
   cases w:p k with
   |false=>
    rw[Vd g n (.inr w),if_neg m];exact Zr
   |true=>
    refine Zf z ?_;refine u _ ⟨g,(),λi F=>?_,Weak.st zp zp⟩
    by_cases B:i=k
    rw[B];exact⟨m,w⟩;exact n i zo
  have o:k=s.l.length:=zo;subst o;have j:decide ((s.l.length:Int)<(s.l.length:Int))=false:=zS;rw[Rw n];exact Zq j
theorem Zen(G:Nat->V)(p:List UInt8×Int)(c:Col)(a:List UInt8×Int):Spec Tryz.prog G 150 [Yw p,.view c (Yw a)] Zi (λv _=>v=.bool (p.1==a.1)):=by
 refine Zo 0 9 [.tmp 3] Tryz.func150 λX=>?_;simp only[Wn];refine Z ?_;intro b;exact Zr
theorem Zhw(G:Nat->V)(m:Y6 G)(c c1:Col)(s:Sl (List UInt8×Int))(n:s.l.length<1000000)(a:List UInt8×Int):
  Spec Tryz.prog G 209 [Za c 2 Yw s,.func (.func 150) [] [.view c1 (Yw a)]] Zi (λv _=>v=.int .i64 (Qf (λp=>p.1==a.1) s.l)):=by
 refine Zo 0 19 [.tmp 4] Tryz.func209 λX=>?_;refine Z ?_
 refine Yf s.l.length (λk (_:Unit)=>st [(0,Za c 2 Yw s),(1,.func (.func 150) [] [.view c1 (Yw a)]),(7,.int .i64 s.l.length),(8,.int .i64 k)] []) (λk _=>∀ y∈s.l.take k,(y.1==a.1)=false) 0 () (Nat.zero_le _) zS
  (Weak.st zp zp) ?_
 intro k _ o f q h
 by_cases d:k<s.l.length
 .have b:decide ((k:Int)<(s.l.length:Int))=true:=zT
  have e:=List.getElem?_eq_getElem d;generalize s.l[k]=x at e;refine Zf (zi b (zi e Wn)) ?_;refine Zcf @Wn m ?_ (s:=Zen G x c1.ent a)
  cases i:(x.1==a.1)with
  |true=>
   refine Z ?_;rw[V3 (p:=λp:List UInt8×Int=>p.1==a.1) e f i]
  |false=>
   have j:IntKind.i64.wrap ((k:Int)+1)=(k:Int)+1:=W0 zo zo;refine Zf j ?_;exact h _ ⟨d,(),U1 e f i,Weak.st (V9 @Wn) zp⟩
 have g:k=s.l.length:=zo;have b:decide ((k:Int)<(s.l.length:Int))=false:=zF;rw[g,List.take_length]at f;refine Zf b ?_;rw[V4 (p:=λp:List UInt8×Int=>p.1==a.1) f]
theorem Ph{α : Type}(p : α -> Bool)(l:List α):decide (Qf p l>=0)=l.any p:=by
 unfold Qf
 cases h:l.findIdx? p with
 |none=>
  rw[List.findIdx?_eq_none_iff]at h;rw[List.any_eq_false.2 (λx a=>by rw[h x a];decide)];rfl
 |some i=>
  obtain⟨c,b,_⟩:=List.findIdx?_eq_some_iff_getElem.1 h;rw[List.any_eq_true.2 ⟨_,List.getElem_mem c,b⟩];exact decide_eq_true (Int.natCast_nonneg i)
theorem Z9w(G:Nat->V)(b:Y6 G)(c c1:Col)(s:Sl (List UInt8×Int))(d:s.l.length<1000000)(a:List UInt8×Int):
  Spec Tryz.prog G 149 [Za c 2 Yw s,.func (.func 150) [] [.view c1 (Yw a)]] Zi (λv _=>v=.bool (s.l.any λp=>p.1==a.1)):=by
 refine Zo 0 9 [.tmp 4] Tryz.func149 λX=>?_;refine Z ?_;refine Zcf @Wn b ?_ (s:=Zhw G b c.ent c1.ent s d a);refine Z ?_;rw[Ph]
theorem Zkw(G:Nat->V)(c:Col)(t:Int)(s:Sl Int)(j:s.l.length<1000000):Spec Tryz.prog G 71 [Za c 1 (V.int .i64) s,.int .i64 t] Zi (λv _=>v=.int .i64 (Qf (t == ·) s.l)):=by
  refine Zo 0 19 [.tmp 4] Tryz.func71 λX=>?_;refine Z ?_;refine Yf s.l.length (λk (_:Unit)=>st [(0,Za c 1 (V.int .i64) s),(1,.int .i64 t),(7,.int .i64 s.l.length),(8,.int .i64 k)] []) (λk _=>∀ y∈s.l.take k,(t==y)=false) 0 () (Nat.zero_le _) zS (Weak.st zp zp) ?_;intro k _ m e n h
  by_cases b:k<s.l.length
  have a:decide ((k:Int)<(s.l.length:Int))=true:=zT;have d:=List.getElem?_eq_getElem b;generalize s.l[k]=x at d;have i:IntKind.i64.wrap ((k:Int)+1)=(k:Int)+1:=W0 zo zo;cases f:(t==x);refine Zf (zi a (zi d (zi f i))) ?_;exact h _ ⟨b,(),U1 d e f,Weak.st zp zp⟩;refine Zf (zi a (zi d f)) ?_;rw[V3 (p:=λy=>t==y) d e f];have g:k=s.l.length:=zo;have a:decide ((k:Int)<(s.l.length:Int))=false:=zF;rw[g,List.take_length]at e;refine Zf a ?_;rw[V4 (p:=λy=>t==y) e]
theorem Ziw(G:Nat->V)(c:Col)(t:Int)(s:Sl Int)(j:s.l.length<1000000):Spec Tryz.prog G 179 [Za c 1 (V.int .u8) s,.int .u8 t] Zi (λv _=>v=.int .i64 (Qf (t == ·) s.l)):=by
  refine Zo 0 19 [.tmp 4] Tryz.func179 λX=>?_;refine Z ?_;refine Yf s.l.length (λk (_:Unit)=>st [(0,Za c 1 (V.int .u8) s),(1,.int .u8 t),(7,.int .i64 s.l.length),(8,.int .i64 k)] []) (λk _=>∀ y∈s.l.take k,(t==y)=false) 0 () (Nat.zero_le _) zS (Weak.st zp zp) ?_;intro k _ m e n h
  by_cases b:k<s.l.length
  have a:decide ((k:Int)<(s.l.length:Int))=true:=zT;have d:=List.getElem?_eq_getElem b;generalize s.l[k]=x at d;have i:IntKind.i64.wrap ((k:Int)+1)=(k:Int)+1:=W0 zo zo;cases f:(t==x);refine Zf (zi a (zi d (zi f i))) ?_;exact h _ ⟨b,(),U1 d e f,Weak.st zp zp⟩;refine Zf (zi a (zi d f)) ?_;rw[V3 (p:=λy=>t==y) d e f];have g:k=s.l.length:=zo;have a:decide ((k:Int)<(s.l.length:Int))=false:=zF;rw[g,List.take_length]at e;refine Zf a ?_;rw[V4 (p:=λy=>t==y) e]
theorem Mr(G:Nat->V)(b:Y6 G)(c:Col)(t:Int)(s:Sl Int)(a:s.l.length<1000000):Spec Tryz.prog G 33 [Za c 1 (V.int .i64) s,.int .i64 t] Zi (λv _=>v=.bool (s.l.contains t)):=by
 refine Zo 0 9 [.tmp 4] Tryz.func33 λX=>?_;refine Z ?_;refine Zc b ?_ (s:=Zkw G _ t s a);refine Z ?_;rw[Ph,<- List.contains_eq_any_beq]
theorem Ai(G:Nat->V)(b:Y6 G)(c:Col)(t:Int)(s:Sl Int)(a:s.l.length<1000000):Spec Tryz.prog G 114 [Za c 1 (V.int .u8) s,.int .u8 t] Zi (λv _=>v=.bool (s.l.contains t)):=by
 refine Zo 0 9 [.tmp 4] Tryz.func114 λX=>?_;refine Z ?_;refine Zc b ?_ (s:=Ziw G _ t s a);refine Z ?_;rw[Ph,<- List.contains_eq_any_beq]
theorem Wj(G:Nat->V)(g:Y6 G)(b c d e f:Col)(m:MdM)(h vs:Sl (List UInt8))(v:Int)(o:0<=v)(n:v<m.p.vertices.length)(ks:Sl Int)(a:ks.l.length<1000000):
  Spec Tryz.prog G 167 [Vm b c d e m h vs,.int .i64 v,Za f 1 (V.int .u8) ks] Zi (λw _=>w=.bool (ks.l.contains (m.p.kd v))):=by
 refine Zo 0 18 [.tmp 6] Tryz.func167 λX=>?_;obtain⟨k,x,rfl,a,j,i⟩:=MdM.at o n;rw[PM.kd,i];simp only[Xh];refine Zf (zi j (zi a (zi Zt (zi @Int.natCast_nonneg @Int.ofNat_lt)))) ?_;refine Zc g ?_ (s:=Ai G g _ x.kind ks (by assumption));exact Zr
theorem Zqt(m:MdM)(v:Int):m.p.inc v=(m.ways.l.filter λt=>t.target==v).map (·.source):=by
 show((m.ways.l.map TrM.p).filter _).map _=_
 rw[List.filter_map,List.map_map]<;>rfl
theorem Z8s(m:MdM)(v:Int):m.p.out v=(m.ways.l.filter λt=>t.source==v).map (·.target):=by
 show((m.ways.l.map TrM.p).filter _).map _=_
 rw[List.filter_map,List.map_map]<;>rfl
theorem Mt(G:Nat->V)(E:Y6 G)(b c d e:Col)(m:MdM)(s vs:Sl (List UInt8))(C:m.ways.l.length<1000000)(v:Int):
  Spec Tryz.prog G 170 [Vm b c d e m s vs,.int .i64 v] Zi (λw _=>w=Za .new 1 (V.int .i64) (Zb (m.p.inc v))):=by
 rw[Zqt];refine Zo 0 28 [.tmp 4] Tryz.func170 λX=>?_;simp only[Xh];refine Z ?_
 refine Yf m.ways.l.length (λk (g:Nat)=>st [(0,Vm b c d e m s vs),(1,.int .i64 v),(4,grown 25 g 1 (((m.ways.l.take k).filter λt=>t.target==v).map (·.source))),(11,Za c 8 (Xp d) m.ways),(12,.int .i64 m.ways.l.length),(13,.int .i64 k)] [(25,Yb g (V.int .i64) (((m.ways.l.take k).filter λt=>t.target==v).map (·.source)))])
  (λ_ _=>True) 0 0 (Nat.zero_le _) trivial (Weak.st (V9 @Xh) zp) ?_
 intro k g D _ H a
 by_cases h:k<m.ways.l.length
 have j:decide ((k:Int)<(m.ways.l.length:Int))=true:=zT;have z:=List.getElem?_eq_getElem h
 have n:m.ways.l.take (k+1)=m.ways.l.take k++[m.ways.l[k]]:=by rw[List.take_succ_eq_append_getElem h]
 have r:(((m.ways.l.take k).filter λt=>t.target==v).map (·.source)).length<=k:=by
  rw[List.length_map];exact Nat.le_trans (List.length_filter_le _ _) (by rw[List.length_take];omega)
 generalize m.ways.l[k]=x at z n;have y:IntKind.i64.wrap ((k:Int)+1)=(k:Int)+1:=W0 zo zo;rw[n]at a;simp only[List.filter_append,List.map_append]at a;generalize((m.ways.l.take k).filter λt=>t.target==v).map (·.source)=i at r a;refine Zf (zi j (zi z Z8)) ?_;intro F;cases q:(x.target==v);rw[List.filter_cons_of_neg (by simp[q])]at a;simp only[List.filter_nil,List.map_nil,List.append_nil]at a;refine Zf (zi q y) ?_;exact a _ ⟨h,g,trivial,Weak.st (V9 @Xh) zp⟩;rw[List.filter_cons_of_pos (by simp[q])]at a;simp only[List.filter_nil,List.map_nil,List.map_cons]at a;refine Zf (zi q Z8) ?_;intro A;refine X2 (f:=V.int .i64) (l:=i) (l2:=[x.source]) (g:=g) (λ_=>rfl) rfl rfl rfl zp (Yg zo zO) λB=>?_;refine Zs ?_;refine Zf y ?_;exact a _ ⟨h,B,trivial,Weak.st (V9 @Xh) zp⟩;have u:k=m.ways.l.length:=zo;subst u;rw[List.take_length];have j:decide ((m.ways.l.length:Int)<(m.ways.l.length:Int))=false:=zS;generalize(m.ways.l.filter λt=>t.target==v).map (·.source)=i;refine AW.weak (Zw (λo=>o==25) (l:=[(0,Vm b c d e m s vs),(4,Za .new 1 (V.int .i64) (Zb i)),(12,.int .i64 m.ways.l.length),(13,.int .i64 m.ways.l.length)]) (m:=[]) ?_ trivial) ?_;refine Zs ?_;exact⟨Fz.same _,W7 (l:=i) (g:=g) (f:=V.int .i64) rfl zp (λ_=>rfl),Fz.same _⟩;exact Zq j
theorem Sq(G:Nat->V)(E:Y6 G)(b c d e:Col)(m:MdM)(s vs:Sl (List UInt8))(C:m.ways.l.length<1000000)(v:Int):
  Spec Tryz.prog G 168 [Vm b c d e m s vs,.int .i64 v] Zi (λw _=>w=Za .new 1 (V.int .i64) (Zb (m.p.out v))):=by
 rw[Z8s];refine Zo 0 28 [.tmp 4] Tryz.func168 λX=>?_;simp only[Xh];refine Z ?_
 refine Yf m.ways.l.length (λk (g:Nat)=>st [(0,Vm b c d e m s vs),(1,.int .i64 v),(4,grown 25 g 1 (((m.ways.l.take k).filter λt=>t.source==v).map (·.target))),(11,Za c 8 (Xp d) m.ways),(12,.int .i64 m.ways.l.length),(13,.int .i64 k)] [(25,Yb g (V.int .i64) (((m.ways.l.take k).filter λt=>t.source==v).map (·.target)))])
  (λ_ _=>True) 0 0 (Nat.zero_le _) trivial (Weak.st (V9 @Xh) zp) ?_
 intro k g D _ H a
 by_cases h:k<m.ways.l.length
 have j:decide ((k:Int)<(m.ways.l.length:Int))=true:=zT;have z:=List.getElem?_eq_getElem h
 have n:m.ways.l.take (k+1)=m.ways.l.take k++[m.ways.l[k]]:=by rw[List.take_succ_eq_append_getElem h]
 have r:(((m.ways.l.take k).filter λt=>t.source==v).map (·.target)).length<=k:=by
  rw[List.length_map];exact Nat.le_trans (List.length_filter_le _ _) (by rw[List.length_take];omega)
 generalize m.ways.l[k]=x at z n;have y:IntKind.i64.wrap ((k:Int)+1)=(k:Int)+1:=W0 zo zo;rw[n]at a;simp only[List.filter_append,List.map_append]at a;generalize((m.ways.l.take k).filter λt=>t.source==v).map (·.target)=i at r a;refine Zf (zi j (zi z Z8)) ?_;intro F;cases q:(x.source==v);rw[List.filter_cons_of_neg (by simp[q])]at a;simp only[List.filter_nil,List.map_nil,List.append_nil]at a;refine Zf (zi q y) ?_;exact a _ ⟨h,g,trivial,Weak.st (V9 @Xh) zp⟩;rw[List.filter_cons_of_pos (by simp[q])]at a;simp only[List.filter_nil,List.map_nil,List.map_cons]at a;refine Zf (zi q Z8) ?_;intro A;refine X2 (f:=V.int .i64) (l:=i) (l2:=[x.target]) (g:=g) (λ_=>rfl) rfl rfl rfl zp (Yg zo zO) λB=>?_;refine Zs ?_;refine Zf y ?_;exact a _ ⟨h,B,trivial,Weak.st (V9 @Xh) zp⟩;have u:k=m.ways.l.length:=zo;subst u;rw[List.take_length];have j:decide ((m.ways.l.length:Int)<(m.ways.l.length:Int))=false:=zS;generalize(m.ways.l.filter λt=>t.source==v).map (·.target)=i;refine AW.weak (Zw (λo=>o==25) (l:=[(0,Vm b c d e m s vs),(4,Za .new 1 (V.int .i64) (Zb i)),(12,.int .i64 m.ways.l.length),(13,.int .i64 m.ways.l.length)]) (m:=[]) ?_ trivial) ?_;refine Zs ?_;exact⟨Fz.same _,W7 (l:=i) (g:=g) (f:=V.int .i64) rfl zp (λ_=>rfl),Fz.same _⟩;exact Zq j
def X8(b c d e f g:Col)(m:MdM)(x:IxM):V:=.view b (.agg [.str m.name,Za c 2 Yw m.vars,Za c 1 V.str m.events,Za c 2 Yw m.regions,Za c 8 (Y0 d) m.verts,Za c 8 (Xp d) m.ways,Mz e f g x])
theorem Ue(b c d e f g:Col)(m:MdM)(x:IxM):X8 b c d e f g m x=.view b (.agg [.str m.name,Za c 2 Yw m.vars,Za c 1 V.str m.events,Za c 2 Yw m.regions,Za c 8 (Y0 d) m.verts,Za c 8 (Xp d) m.ways,Mz e f g x]):=rfl
theorem U2(q:Col->Col)(b c d e f g:Col)(m:MdM)(x:IxM):(X8 b c d e f g m x).recol q=X8 (q b) (q c) (q d) (q e) (q f) (q g) m (x.rc q):=by
 simp only[Ue,V.recol,Yt,Ta,Ma,N9,Mb,Z3f]
theorem Zr2(b c d e f g:Col)(m:MdM)(x:IxM):(X8 b c d e f g m x).cells=[X8 b c d e f g m x]:=rfl
theorem Z1z(b c d e f g:Col)(m:MdM)(x:IxM):(X8 b c d e f g m x).solid=true:=rfl
theorem Zo1(n:Nat)(ob:AObj)(q b c d:Col)(x:IxM):Tz (some (false,n)) ob (.view q (Mz b c d x))=some (Mz b c d x):=rfl
attribute[go_sem]U2 Zr2 Z1z Zo1
theorem Ut(G:Nat->V)(a:Y6 G)(b c d e f g c1:Col)(m:MdM)(x:IxM)(v:Int)(o:0<=v)(n:v<m.p.vertices.length)(s:Sl Int)(h:s.l.length<1000000):
  Spec Tryz.prog G 58 [X8 b c d e f g m x,.int .i64 v,Za c1 1 (V.int .u8) s] Zi (λw _=>w=.bool (s.l.contains (m.p.kd v))):=by
 refine Zo 0 18 [.tmp 6] Tryz.func58 λX=>?_;obtain⟨k,y,rfl,i,j,r⟩:=m.at o n
 have q:m.p.kd (k:Int)=y.kind:=by rw[PM.kd,r]<;>rfl
 rw[q];refine Zf (zi j (zi i (zi Zt (zi Ue (zi @Int.natCast_nonneg @Int.ofNat_lt))))) ?_;refine Zc a ?_ (s:=Ai G a _ _ _ h);exact Zr
theorem C4(k a:Int):[a].contains k=(k==a):=by
 show List.elem k [a]=_
 simp only[List.elem]
 cases k==a<;>rfl
theorem con2(k a b:Int):[a,b].contains k=(k==a||k==b):=by
 show List.elem k [a,b]=_
 simp only[List.elem]
 cases k==a<;>cases k==b<;>rfl
theorem Zag(G:Nat->V)(a:Y6 G)(b c d e f g:Col)(m:MdM)(x:IxM)(r:IxP m.p x)(t:m.p.ways.length<1000000)(v:Int)(j:0<=v)(i:v<m.p.vertices.length):
  Spec Tryz.prog G 218 [X8 b c d e f g m x,.int .i64 v] Zi (λw _=>w=.bool (m.p.oneP v)):=by
 refine Zo 0 25 [.tmp 4] Tryz.func218 λX=>?_;rw[PM.oneP];refine Z ?_;intro y;refine Wa (λo=>o==7) [X8 b c d e f g m x,.int .i64 v,Za .new 1 (V.int .u8) (.mk false [5,11])] [] ⟨Fz.same _,Fz.same _,?_,trivial⟩ trivial ?_;exact Xm (f:=V.int .u8) (l:=[5,11]) (m:=1) (g:=y) (fz:=0) (c:=.new) rfl zp λ_=>rfl;refine Zc a ?_ (s:=Ut G a _ _ _ _ _ _ _ m _ v j i _ zd);rw[con2];cases q:(m.p.kd v==5||m.p.kd v==11);refine Zg q ?_;intro k;refine Wa (λo=>o==12) [X8 b c d e f g m x,.int .i64 v,Za .new 1 (V.int .u8) (.mk false [10])] [] ⟨Fz.same _,Fz.same _,?_,trivial⟩ trivial ?_;exact Xm (f:=V.int .u8) (l:=[10]) (m:=1) (g:=k) (fz:=0) (c:=.new) rfl zp λ_=>rfl;refine Zc a ?_ (s:=Ut G a _ _ _ _ _ _ _ m _ v j i _ zd);rw[C4];cases n:(m.p.kd v==10);refine Zg n ?_;rfl
 .refine Zg (zi n Ue) ?_
  refine Ze a (λw h=>?_) (s:=Iz G a _ _ _ _ m.p (r.rc _) t v j i);obtain⟨s,u,rfl⟩:=h;refine Zg u ?_;rw[Bool.false_or,Bool.true_and];refine congrArg V.bool ?_;rw[Bool.eq_iff_iff];simp
  try omega
 refine Zg q ?_;rfl
theorem Zun(G:Nat->V)(a:Y6 G)(b c d e f g:Col)(m:MdM)(x:IxM)(r:IxP m.p x)(t:m.p.ways.length<1000000)(v:Int)(j:0<=v)(i:v<m.p.vertices.length):
  Spec Tryz.prog G 118 [X8 b c d e f g m x,.int .i64 v] Zi (λw _=>w=.bool (m.p.allP v)):=by
 refine Zo 0 25 [.tmp 4] Tryz.func118 λX=>?_;rw[PM.allP];refine Z ?_;intro y;refine Wa (λo=>o==7) [X8 b c d e f g m x,.int .i64 v,Za .new 1 (V.int .u8) (.mk false [6])] [] ⟨Fz.same _,Fz.same _,?_,trivial⟩ trivial ?_;exact Xm (f:=V.int .u8) (l:=[6]) (m:=1) (g:=y) (fz:=0) (c:=.new) rfl zp λ_=>rfl;refine Zc a ?_ (s:=Ut G a _ _ _ _ _ _ _ m _ v j i _ zd);rw[C4];cases q:(m.p.kd v==6);refine Zg q ?_;intro k;refine Wa (λo=>o==12) [X8 b c d e f g m x,.int .i64 v,Za .new 1 (V.int .u8) (.mk false [10])] [] ⟨Fz.same _,Fz.same _,?_,trivial⟩ trivial ?_;exact Xm (f:=V.int .u8) (l:=[10]) (m:=1) (g:=k) (fz:=0) (c:=.new) rfl zp λ_=>rfl;refine Zc a ?_ (s:=Ut G a _ _ _ _ _ _ _ m _ v j i _ zd);rw[C4];cases n:(m.p.kd v==10);refine Zg n ?_;rfl
 .refine Zg (zi n Ue) ?_
  refine Ze a (λw h=>?_) (s:=Iz G a _ _ _ _ m.p (r.rc _) t v j i);obtain⟨s,u,rfl⟩:=h;refine Zg u ?_;rw[Bool.false_or,Bool.true_and];refine congrArg V.bool ?_;rw[Bool.eq_iff_iff];simp
  try omega
 refine Zg q ?_;rfl
end Go.Hs
end

section
namespace Go.Hs
open Go.Proofs
set_option maxRecDepth 10000
set_option maxHeartbeats 2000000
def encW(p:List Int×Int):List V:=[Za .new 1 (V.int .i64) (.mk false p.1),.int .i64 p.2]
theorem Zk2(p:List Int)(v:Int):encW (p,v)=[Za .new 1 (V.int .i64) (.mk false p),.int .i64 v]:=rfl
theorem Mk{σ κ : Type}(a : σ -> κ -> Bool × σ)(s : σ)(k : κ):Yl a s [k]=a s k:=by
 rw[Yl,Yl];generalize a s k=r;obtain⟨b,c⟩:=r
 cases b<;>rfl
theorem I2{σ κ : Type}(c : σ -> κ -> Bool × σ):∀ (a b:List κ) (s : σ),Yl c s (a++b)=if(Yl c s a).1=true then Yl c (Yl c s a).2 b else(false,(Yl c s a).2)
 |[],b,s=>rfl
 |k::r,b,s=>by
  rw[List.cons_append,Yl,Yl];cases q:(c s k).1;rfl;simp only[if_true];exact I2 c r b _
theorem Jh{σ κ : Type}{c : σ -> κ -> Prop}{d : σ -> κ -> Bool × σ}:∀ {a b:List κ} {s : σ},R9 c d s (a++b)->R9 c d s a/\((Yl d s a).1=true->R9 c d (Yl d s a).2 b)
 |[],b,s,h=>⟨trivial,λ_=>h⟩
 |k::r,b,s,h=>by
  obtain⟨g,f⟩:=h;refine⟨⟨g,λq=>(Jh (f q)).1⟩,λq=>?_⟩;rw[Yl]at q⊢;cases e:(d s k).1;rw[e]at q;simp at q;rw[e]at q;simp only[if_true]at q⊢;exact(Jh (f e)).2 q
theorem Ss{E:Ent}{lo:Nat}{τ : Nat->V}{H B:Heap}{l:List (Nat×V)}{m:List (Nat×AObj)}(h:Js (λ_=>false) H τ l)(b:T8 H m)(d:Z7 lo H=Z7 lo B):Weak E ⟨τ,H⟩ (Hs.stM lo B l m):=by
 refine Ur (λ_=>false) (λt=>Ko t h) (λo=>?_)
 show FzO _ H o (Z6 (Z7 lo B) m o)
 rcases Wk (τ := Z7 lo B) (f:=H) o m (Wq b)with a|a
 rw[a,<- d]
 rcases Nat.lt_or_ge o lo with q|q
 rw[X5 q];trivial
 .rw[W8 q]
  have:=FzO.same (F:=λ_=>false) (H:=H) (o:=o) rfl
  cases c:H o with
  |mp=>trivial
  |_=>rw[c]at this;exact this
 rw[a];exact FzO.same rfl
theorem Zfs{P:Program}{lo:Nat}(F:Nat->Bool){G:Nat->V}{f:FuncId}{args:List V}{H:Heap}{K:V->Heap->Prop}(B:Heap)(args':List V)(a:FzL F H args args')(d:Z7 lo H=Z7 lo B)(c:∀ o,lo<=o->F o=false)(h:CallA P G f args' (Z7 lo B) K):CallA P G f args H K:=
 Mx F a.get.1 a.get.2 (λo=>by
  rcases Nat.lt_or_ge o lo with q|q
  rw[X5 q];trivial
  .rw[<- d,W8 q]
   have:=FzO.same (H:=H) (c o q)
   cases b:H o with
   |mp=>trivial
   |_=>rw[b]at this;exact this) h
def PM.walkG(m:PM)(f:Nat)(path:List Int)(t:Int):List (List Int×Int):=if path.contains t=true then[(path++[t],-1)]else m.walkF f (m.tg t) (path++[t])
theorem Lb(m:PM)(f:Nat)(v:Int)(a:List Int):m.walkF (f+1) v a=if m.oneP v=true then(m.outI v).flatMap (m.walkG f a)else[(a,v)]:=rfl
theorem Z03(G:Nat->V)(M:Y6 G)(m:MdM)(x:IxM)(hx:IxP m.p x)(hw:m.p.ways.length<100000)(hr:∀ t:Int,0<=t->t<m.p.ways.length->0<=m.p.tg t/\m.p.tg t<m.p.vertices.length):
  ∀ (f:Nat) (path:List Int) (v:Int) (b c d e f' g:Col) (H:Heap),0<=v->v<m.p.vertices.length->path.Nodup->(∀ t∈path,0<=t/\t<m.p.ways.length)->m.p.ways.length+1-path.length<=f ->
   YfSp Tryz.prog G 100 181 (λy=>[X8 b c d e f' g m x,.int .i64 v,Za .new 1 (V.int .i64) (.mk false path),y]) H encW (m.p.walkF f v path) V.bool:=by
 intro N
 induction N with
 |zero=>
  intro path v b c d e f' g H h0 h1 F E hf;have:=PM.nodup_len F E;omega
 |succ N ih=>
  intro path v b c d e f' g H h0 h1 F E hf;have hpl:path.length<=m.p.ways.length:=PM.nodup_len F E;refine Vc .plain 0 57 4 [.tmp 8] Tryz.func181 λX t cl σ R dom C W hy K hR hP=>?_;refine AW.weak (Y5 (lo:=100) (B:=H) (l:=[(0,X8 b c d e f' g m x),(1,.int .i64 v),(2,Za .new 1 (V.int .i64) (.mk false path)),(3,.func t [] cl)]) (m:=[]) ⟨rfl,rfl,rfl,rfl,trivial⟩ trivial rfl) ?_;refine Z ?_;refine Zc M ?_ (s:=Zag G M _ _ _ _ _ _ m _ (hx.rc _) zo v h0 h1);rw[Lb]at K⊢;cases q:m.p.oneP v;rw[q]at K;simp only[Bool.false_eq_true,if_false]at K⊢;refine Xw q ?_;refine U8 rfl ?_;refine Z4 (Wm [3] zk (by rfl) ?_);simp -implicitDefEqProofs only[go_sem,seval,My];refine⟨_,rfl,S8 hy W (path,v) zp zm K.1 ?_ (λH2 h T=>?_) zk (n:=3) rfl zp⟩;refine Zs ?_;exact hR;refine Zs ?_;refine Z ?_;rw[Mk];exact⟨.inl rfl,h⟩
  .rw[q]at K
   simp only[if_true]at K⊢;refine Xw (zi q Ue) ?_;refine Wx rfl ?_;refine AW.skip ?_;refine Xw Ue ?_;refine Z4 (Vp zk ?_);refine Xw @Ue ?_;refine Ze M (λw hw'=>?_) (s:=Iz G M _ _ _ _ m.p (hx.rc _) zo v h0 h1);obtain⟨out,j,rfl⟩:=hw'
   have hol:out.l.length<=m.p.ways.length:=by rw[j];exact PM.wysI_len _ _ _
   have hor:∀ t∈out.l,0<=t/\t<m.p.ways.length:=λt D=>by rw[j]at D;exact(PM.mem_out.1 D).1
   rw[<- j]at K⊢
   try clear j
   refine Zs ?_;refine AW.block ?_
   refine Yf out.l.length (λk (w : σ × Heap)=>Hs.stM 100 w.2 [(0,X8 b c d e f' g m x),(1,.int .i64 v),(2,Za .new 1 (V.int .i64) (.mk false path)),(3,.func t [] cl),(25,Za .new 1 (V.int .i64) out),(26,.int .i64 out.l.length),(27,.int .i64 k)] [])
    (λk w=>R9 dom C w.1 ((out.l.drop k).flatMap (m.p.walkG N path))/\R w.1 (Z7 100 w.2)/\Yl C W (out.l.flatMap (m.p.walkG N path))=Yl C w.1 ((out.l.drop k).flatMap (m.p.walkG N path))) 0 (W,H) (Nat.zero_le _) ⟨K,hR,rfl⟩
    (Y5 ⟨rfl,rfl,rfl,rfl,zp,zp,zp,trivial⟩ trivial zp) ?_
   rintro k ⟨I,Hk⟩ hk ⟨A,Y,i⟩ L hL;simp only at A Y i
   by_cases u:k<out.l.length
   have P:decide ((k:Int)<(out.l.length:Int))=true:=zT;have hg:=List.getElem?_eq_getElem u;have J:=List.getElem_mem u;rw[List.drop_eq_getElem_cons u,List.flatMap_cons]at A i;generalize out.l[k]=z at hg J A i;obtain⟨O,tr1⟩:=hor z J;refine Zf (zi P (zi hg (zi u (zi @Int.natCast_nonneg @Int.ofNat_lt)))) ?_;intro g33;refine Zfs (lo:=100) (λo=>o==33) Hk [Za .new 1 (V.int .i64) (.mk false path),Za .new 1 (V.int .i64) (.mk false [z])] ⟨Fz.same _,Xm (f:=V.int .i64) (l:=[z]) (m:=1) (g:=g33) (fz:=0) (c:=.new) rfl zp (λ_=>rfl),trivial⟩ zp (λo ho=>zO) ?_;refine Zc M ?_ (s:=Jz G M _ _ _ _ (by show path.length<_;omega) (by show(1:Nat)<_;omega) (by show path.length+1≠0;omega));refine Zs ?_
   refine AW.weak (Ss (lo:=100) (B:=Hk) (l:=[(0,X8 b c d e f' g m x),(1,.int .i64 v),(2,Za .new 1 (V.int .i64) (.mk false path)),(3,.func t [] cl),(10,.int .i64 z),(11,Za .new 1 (V.int .i64) (.mk false (path++[z]))),(25,Za .new 1 (V.int .i64) out),(26,.int .i64 out.l.length),(27,.int .i64 k)]) (m:=[])
    (by refine Zs ?_;exact⟨Fz.same _,Fz.same _,Fz.same _,Fz.same _,Fz.same _,Fz.same _,Fz.same _,Fz.same _,Fz.same _⟩) trivial zp) ?_
   refine Z4 (Vp zk ?_);refine Zs ?_;refine Zc M ?_ (s:=Mr G M _ _ (.mk false path) (by show path.length<_;omega));rw[PM.walkG]at A i;have w1:IntKind.i64.wrap ((k:Int)+1)=(k:Int)+1:=W0 zo zo;cases S:path.contains z;rw[S]at A i;simp only[Bool.false_eq_true,if_false]at A i;refine Xw S ?_;refine Wx rfl ?_;refine AW.skip ?_;refine Zs ?_;obtain⟨n,y,rfl,hn,hgy,ey⟩:=m.wyAt O tr1
   have etg:m.p.tg (n:Int)=y.target:=by rw[PM.tg,ey]<;>rfl
   obtain⟨tg0,tg1⟩:=hr _ O tr1;obtain⟨da,db⟩:=Jh A;refine Z4 (Wm [12] zk (by rfl) ?_);simp -implicitDefEqProofs only[go_sem,seval,My,hgy,hn,Ue,Z8,@Int.natCast_nonneg,@Int.ofNat_lt];refine⟨_,rfl,Jv 100 (Nat.le_refl _) (ih (path++[(n:Int)]) (m.p.tg n) b c d e f' g _ tg0 tg1 ?_ ?_ ?_) zk (λX' hle=>hy.at hle) I rfl ?_ da ?_ (λH2 h _=>?_) zk (n:=12) rfl zp (λ_ _ _=>trivial)⟩;rw[List.nodup_append];refine⟨F,List.pairwise_singleton ..,λa ha b' hb e=>?_⟩;rw[List.mem_singleton]at hb;subst hb e;rw[List.contains_iff_mem.2 ha]at S;cases S;intro t D
   rcases List.mem_append.1 D with D|D
   exact E t D;rw[List.mem_singleton]at D;subst D;exact⟨O,tr1⟩;rw[List.length_append]
   show _-(path.length+1)<=_
   omega;exact V9 (zi etg @Ue);refine Zs ?_;exact Y;refine Zs ?_;rw[I2]at i;generalize Yl C I (m.p.walkF N (m.p.tg (n:Int)) (path++[(n:Int)]))=r at h db i⊢;obtain⟨bb,s2⟩:=r;cases bb;refine Z ?_;rw[i];exact⟨.inl rfl,h⟩;refine Zf w1 ?_;exact hL _ ⟨u,(s2,H2),⟨db rfl,h,i⟩,Y5 ⟨rfl,rfl,rfl,rfl,zp,zp,zp,trivial⟩ trivial rfl⟩;rw[S]at A i;simp only[if_true]at A i;refine Xw S ?_;refine U8 rfl ?_;refine Z4 (Z4 (Wm [2] zk (by rfl) ?_));simp -implicitDefEqProofs only[go_sem,seval,My];refine⟨_,rfl,S8 hy I (path++[z],-1) zp zm A.1 ?_ (λH2 h T=>?_) zk (n:=2) rfl zp⟩;refine Zs ?_;exact Y;refine Zs ?_;have U:=A.2
   have Q:Yl C W (out.l.flatMap (m.p.walkG N path))=if(C I (path++[z],-1)).1=true then Yl C (C I (path++[z],-1)).2 ((out.l.drop (k+1)).flatMap (m.p.walkG N path))else(false,(C I (path++[z],-1)).2):=i
   generalize C I (path++[z],-1)=r at h U Q⊢;obtain⟨bb,s2⟩:=r;cases bb;refine Z ?_;rw[Q];exact⟨.inl rfl,h⟩;refine Zf w1 ?_;exact hL _ ⟨u,(s2,H2),⟨U rfl,h,Q⟩,Y5 ⟨rfl,rfl,rfl,rfl,zp,zp,zp,trivial⟩ trivial rfl⟩;have hke:k=out.l.length:=zo;have P:decide ((k:Int)<(out.l.length:Int))=false:=zF;rw[hke,List.drop_length]at i;refine Zf P ?_;refine Z ?_;rw[i];refine⟨.inl rfl,?_⟩
   show R I _
   refine Zs ?_;exact Y
end Go.Hs
end

section
namespace Go.Hs
open Go.Proofs
set_option maxRecDepth 10000
set_option maxHeartbeats 2000000
theorem Bh(G:Nat->V)(b c d e f g:Col)(m:MdM)(x:IxM)(v:Int)(p:Sl Int):InSp Tryz.prog G 116 [X8 b c d e f g m x,.int .i64 v,Za .new 1 (V.int .i64) p] (Z6 Zi [(63,.dead),(64,.dead),(65,.dead)])
  (λw H'=>∃ g3 g4 g5,w=.func (.func 180) [] [.ptr 63 g3 0,.ptr 64 g4 0,.ptr 65 g5 0]/\H' 63=.cells .new g3 0 [X8 b c d e f g m x]/\H' 64=.cells .new g4 0 [.int .i64 v]/\H' 65=.cells .new g5 0 [Za .new 1 (V.int .i64) p]):=by
 refine X9 60 8 [.tmp 6] Tryz.func116 rfl rfl rfl rfl λX=>?_;simp only[Z6];refine Z ?_;intro g3 g4 g5;refine Z ?_;exact⟨g3,g4,g5,rfl,zr,zr,zr⟩
theorem Zwe(G:Nat->V)(A:Y6 G)(b c d e f g:Col)(m:MdM)(x:IxM)(v:IxP m.p x)(w:m.p.ways.length<100000)(r:∀ t:Int,0<=t->t<m.p.ways.length->0<=m.p.tg t/\m.p.tg t<m.p.vertices.length)
  (t:Int) (t0:0<=t) (t1:t<m.p.ways.length) (g3 h a:Nat) (H:Heap) (E:H 63=.cells .new g3 0 [X8 b c d e f g m x]) (D:H 64=.cells .new h 0 [.int .i64 (m.p.tg t)]) (C:H 65=.cells .new a 0 [Za .new 1 (V.int .i64) (.mk false [t])]):
  Z5l Tryz.prog G 100 180 [.ptr 63 g3 0,.ptr 64 h 0,.ptr 65 a 0] H encW (m.p.waysL t):=by
 refine Vc .plain 0 10 4 [] Tryz.func180 λX ty cl σ R F J s u y z _=>?_;obtain⟨j,i⟩:=r _ t0 t1;refine AW.weak (Y5 (lo:=100) (B:=H) (l:=[(0,.func ty [] cl),(1,.ptr 63 g3 0),(2,.ptr 64 h 0),(3,.ptr 65 a 0)]) (m:=[(63,.cells .new g3 0 [X8 b c d e f g m x]),(64,.cells .new h 0 [.int .i64 (m.p.tg t)]),(65,.cells .new a 0 [Za .new 1 (V.int .i64) (.mk false [t])])]) ⟨rfl,rfl,rfl,rfl,trivial⟩ ⟨E,D,C,trivial⟩ rfl) ?_;refine Wm [4] zk (by rfl) ?_;simp -implicitDefEqProofs only[go_sem,seval,My];refine⟨_,rfl,Jv 100 (Nat.le_refl _) (Z03 G A m x v w r (m.p.ways.length+1-[t].length) [t] (m.p.tg t) b c d e f g _ j i (List.pairwise_singleton ..) ?_ (Nat.le_refl _)) zk (λK k=>u.at k) s rfl ?_ y ?_ (λL o _=>?_) zk (n:=4) rfl zp (λ_ _ _=>trivial)⟩;intro I q;rw[List.mem_singleton]at q;subst q;exact⟨t0,t1⟩;exact zp;refine Zs ?_;exact z;refine Z ?_;exact⟨_,rfl,.inr trivial,o⟩
end Go.Hs
end
