/- A part. No condition. -/
import Derived.Test.YtjplgaebbfabnaaGreatDoorP32
import Derived.Test.YtjplgaebbfabnaaGreatDoorP33
set_option linter.all false
section
namespace Go.Hs
open Go
structure XN where
 op:Int
 num:Int
 name:List UInt8
 a:Int
 b:Int
 c:Int
 deriving DecidableEq,Inhabited
structure Sg where
 text:List UInt8
 level:Int
 parts:Int
 deriving DecidableEq,Inhabited
def tabL:List Sg:=[⟨[],0,0⟩,⟨[],10,0⟩,⟨[],10,0⟩,⟨[116,114,117,101],10,0⟩,⟨[102,97,108,115,101],10,0⟩,⟨[45],9,1⟩,⟨[110,111,116],9,1⟩,
 ⟨[42],8,2⟩,⟨[100,105,118],8,2⟩,⟨[109,111,100],8,2⟩,⟨[43],7,2⟩,⟨[45],7,2⟩,⟨[60],6,2⟩,⟨[60,61],6,2⟩,⟨[62],6,2⟩,⟨[62,61],6,2⟩,⟨[61],5,2⟩,⟨[60,62],5,2⟩,
 ⟨[97,110,100],4,2⟩,⟨[111,114],3,2⟩,⟨[120,111,114],2,2⟩,⟨[105,109,112,108,105,101,115],1,2⟩,⟨[105,102],10,3⟩]
def Z6q(t:List UInt8)(p:Int)(s:Sg):Bool:=s.text==t&&s.parts==p && !(s.text==[])
def ofI(t:List UInt8)(p:Int):Option Nat:=tabL.findIdx? (Z6q t p)
def Ch(t:List UInt8)(p:Int):Nat×Bool:=match ofI t p with|some i=>(i,true)|none=>(0,false)
def lvl(op:Nat):Int:=(tabL.getD op ⟨[],0,0⟩).level
theorem Zfj{t:List UInt8}{p:Int}{i:Nat}(h:ofI t p=some i):∃ s,tabL[i]?=some s/\s.text=t/\s.parts=p/\t≠[]:=by
 obtain⟨b,a,_⟩:=List.findIdx?_eq_some_iff_getElem.1 h;refine⟨tabL[i],List.getElem?_eq_getElem b,?_⟩;unfold Z6q at a
 grind
theorem Zv6{t:List UInt8}{i:Nat}(h:ofI t 0=some i):t=[116,114,117,101]/\i=3\/t=[102,97,108,115,101]/\i=4:=by
 obtain⟨s,a,f,e,d⟩:=Zfj h
 have c:i<23:=by rw[List.getElem?_eq_some_iff]at a;exact a.1
 have b:∀ i,i<23->∀ s,tabL[i]?=some s->s.parts=0->s.text≠[]->s.text=[116,114,117,101]/\i=3\/s.text=[102,97,108,115,101]/\i=4:=by
  intro i c s a e
  have:((List.range 23).all λi=>match tabL[i]? with|some s => !(s.parts==0)||s.text==[]||(s.text==[116,114,117,101]&&i==3)||(s.text==[102,97,108,115,101]&&i==4)|none=>true)=true:=by decide +kernel
  have:=List.all_eq_true.1 this i (List.mem_range.2 c);intro d;rw[a]at this;simp only[e,Bool.or_eq_true,Bool.and_eq_true,beq_iff_eq,d,or_false]at this;simpa using this
 rw[<- f];exact b i c s a e (by rw[f];exact d)
theorem Zwx{t:List UInt8}{i:Nat}(h:ofI t 2=some i):7<=i/\i<=21/\1<=lvl i/\lvl i<=8/\P6 t≠0:=by
 obtain⟨s,a,e,d,_⟩:=Zfj h
 have c:i<23:=by rw[List.getElem?_eq_some_iff]at a;exact a.1
 have b:∀ i,i<23->(tabL[i]?.map (·.parts))=some 2->7<=i/\i<=21/\1<=lvl i/\lvl i<=8/\(tabL[i]?.map λs=>P6 s.text)≠some 0:=by decide +kernel
 grind
def Y3(l:List Tk)(i:Nat):Tk:=match l[i]? with
 |some t=>if(P6 t.text:Int)=t.kind then t else⟨0,[],0⟩
 |none=>⟨0,[],0⟩
theorem Zkj(l:List Tk)(i:Nat):(P6 (Y3 l i).text:Int)=(Y3 l i).kind:=by
 unfold Y3
 split
 split
 grind
 rfl;rfl
theorem Mu{l:List Tk}{i:Nat}(h:(Y3 l i).kind≠0):i<l.length:=by
 rw[<- Nat.not_le];intro a;apply h;unfold Y3
 grind
structure RS where
 i:Nat
 nodes:List XN
 e:Int
 deriving DecidableEq,Inhabited
def RS.put(r:RS)(n:XN):RS:={ r with nodes:=r.nodes++[n] }
def RS.last(r:RS):Int:=(r.nodes.length:Int)-1
def RS.adv(r:RS):RS:={ r with i:=r.i+1 }
def RS.err(r:RS)(e:Int):RS:={ r with e:=e }
@[simp] theorem RS.put_i(r:RS)(n:XN):(r.put n).i=r.i:=rfl
@[simp] theorem RS.adv_i(r:RS):r.adv.i=r.i+1:=rfl
@[simp] theorem RS.err_i(r:RS)(e:Int):(r.err e).i=r.i:=rfl
abbrev Inner:=Int->RS->Bool×RS
def andThen(x:Bool×RS)(k:RS->Bool×RS):Bool×RS:=if x.1 then k x.2 else(false,x.2)
theorem Tn(r:RS)(k:RS->Bool×RS):andThen (true,r) k=k r:=rfl
theorem T5(r:RS)(k:RS->Bool×RS):andThen (false,r) k=(false,r):=rfl
def R5(l:List Tk)(w:List UInt8)(r:RS):Bool×RS:=if(Y3 l r.i).kind=0\/(Y3 l r.i).text≠w then(false,r.err 80)else(true,r.adv)
def J8(r:RS)(op num:Int)(name:List UInt8):Bool×RS:=(true,r.adv.put ⟨op,num,name,-1,-1,-1⟩)
def Mj(t:List UInt8):List UInt8:=if t.dropWhile (· == 48)=[]then[48]else t.dropWhile (· == 48)
def Qn(r:RS)(t:List UInt8):Bool×RS:=if(Sw (Mj t)).2≠0 then(false,r.err (Sw (Mj t)).2)else J8 r 1 (Sw (Mj t)).1 []
def wIf:List UInt8:=[105,102]
def Zth:List UInt8:=[116,104,101,110]
def Zwh:List UInt8:=[101,108,115,101]
def Hc:List UInt8:=[101,110,100,105,102]
def Tm(l:List Tk)(inner:Inner)(r:RS):Bool×RS:=
 andThen (R5 l wIf r) λg=>andThen (inner 1 g) λa=>andThen (R5 l Zth a) λf=>andThen (inner 1 f) λb=>
 andThen (R5 l Zwh b) λe=>andThen (inner 1 e) λc=>andThen (R5 l Hc c) λd=>(true,d.put ⟨22,0,[],a.last,b.last,c.last⟩)
def Pg(l:List Tk)(inner:Inner)(r:RS):Bool×RS:=
 if(Y3 l r.i).kind=1 then Qn r (Y3 l r.i).text
 else if(Y3 l r.i).kind=2 then J8 r 2 0 (Y3 l r.i).text
 else if(Y3 l r.i).kind=0 then(false,r.err 80)
 else if(Ch (Y3 l r.i).text 1).2 then andThen (inner 9 r.adv) λa=>(true,a.put ⟨(Ch (Y3 l r.i).text 1).1,0,[],a.last,-1,-1⟩)
 else if(Y3 l r.i).text=[40]then andThen (inner 1 r.adv) (R5 l [41])
 else if(Y3 l r.i).text=wIf then Tm l inner r
 else if(Ch (Y3 l r.i).text 0).2/\(Y3 l r.i).kind=3 then J8 r (Ch (Y3 l r.i).text 0).1 0 []
 else(false,r.err 80)
def J0(l:List Tk)(i:Nat):Option Nat:=if(Y3 l i).kind=0 then none else ofI (Y3 l i).text 2
def Mx(l:List Tk)(inner:Inner)(n:Int):Nat->RS->Bool×RS
 |0,r=>(true,r)
 |m+1,r=>match J0 l r.i with
  |none=>(true,r)
  |some op=>if lvl op<n then(true,r)else andThen (inner (lvl op+1) r.adv) λa=>Mx l inner n m (a.put ⟨op,0,[],r.last,a.last,-1⟩)
def We(l:List Tk):Nat->Inner
 |0,_,r=>(false,r)
 |f+1,n,r=>andThen (Pg l (We l f) r) (Mx l (We l f) n (l.length+1))
theorem Zvx{l:List Tk}{i op:Nat}(h:J0 l i=some op):i<l.length:=by
 unfold J0 at h
 split at h
 cases h;exact Mu (by grind)
theorem Zt6{l:List Tk}{i:Nat}:J0 l i=ofI (Y3 l i).text 2:=by
 unfold J0
 split
 .rename_i h
  cases a:ofI (Y3 l i).text 2 with
  |none=>rfl
  |some op=>
   have c:=(Zwx a).2.2.2.2;have b:=Zkj l i;omega
 rfl
theorem op_pos{l:List Tk}{i op:Nat}(h:J0 l i=some op):7<=op/\op<=21/\1<=lvl op/\lvl op<=8:=by
 rw[Zt6]at h;obtain⟨d,c,b,a,_⟩:=Zwx h
 grind
end Go.Hs
end

section
namespace Go.Hs
open Go.Proofs
set_option maxRecDepth 100000
def Ow(s:Sg):V:=.agg [.str s.text,.int .i64 s.level,.int .i64 s.parts]
theorem L5(s:Sg):Ow s=.agg [.str s.text,.int .i64 s.level,.int .i64 s.parts]:=rfl
theorem Zjk(s:Sg):(Ow s).cells.length=3:=rfl
def tabC:List V:=flat (tabL.map Ow)
theorem Z4h(op:Nat)(h:op<23)(k:Nat)(a:k<3):tabC[op*3+k]?=((Ow (tabL.getD op ⟨[],0,0⟩)).cells)[k]? := by
 match k,a with
 |0,_=>exact match op,h with
  |0,_=>rfl
  |1,_=>rfl
  |2,_=>rfl
  |3,_=>rfl
  |4,_=>rfl
  |5,_=>rfl
  |6,_=>rfl
  |7,_=>rfl
  |8,_=>rfl
  |9,_=>rfl
  |10,_=>rfl
  |11,_=>rfl
  |12,_=>rfl
  |13,_=>rfl
  |14,_=>rfl
  |15,_=>rfl
  |16,_=>rfl
  |17,_=>rfl
  |18,_=>rfl
  |19,_=>rfl
  |20,_=>rfl
  |21,_=>rfl
  |22,_=>rfl
  |n+23,h=>absurd h zo
 |1,_=>exact match op,h with
  |0,_=>rfl
  |1,_=>rfl
  |2,_=>rfl
  |3,_=>rfl
  |4,_=>rfl
  |5,_=>rfl
  |6,_=>rfl
  |7,_=>rfl
  |8,_=>rfl
  |9,_=>rfl
  |10,_=>rfl
  |11,_=>rfl
  |12,_=>rfl
  |13,_=>rfl
  |14,_=>rfl
  |15,_=>rfl
  |16,_=>rfl
  |17,_=>rfl
  |18,_=>rfl
  |19,_=>rfl
  |20,_=>rfl
  |21,_=>rfl
  |22,_=>rfl
  |n+23,h=>absurd h zo
 |2,_=>exact match op,h with
  |0,_=>rfl
  |1,_=>rfl
  |2,_=>rfl
  |3,_=>rfl
  |4,_=>rfl
  |5,_=>rfl
  |6,_=>rfl
  |7,_=>rfl
  |8,_=>rfl
  |9,_=>rfl
  |10,_=>rfl
  |11,_=>rfl
  |12,_=>rfl
  |13,_=>rfl
  |14,_=>rfl
  |15,_=>rfl
  |16,_=>rfl
  |17,_=>rfl
  |18,_=>rfl
  |19,_=>rfl
  |20,_=>rfl
  |21,_=>rfl
  |22,_=>rfl
  |n+23,h=>absurd h zo
theorem Z64(op:Nat)(h:op<23):tabC[op*3+1]?=some (.int .i64 (lvl op)):=by rw[Z4h op h 1 zd]<;>rfl
theorem Da:tabC.length=69:=rfl
theorem Z6b(f:Col->Col):(V.agg tabC).recol f=.agg tabC:=by
 have:Yv f tabC=tabC:=by
  rw[Yq]
  have:∀ v∈tabC,v.recol f=v:=by
   intro v b;unfold tabC flat at b;rw[List.mem_flatMap]at b;obtain⟨a,c,b⟩:=b;obtain⟨s,_,rfl⟩:=List.mem_map.1 c;simp only[L5,V.cells,List.mem_cons,List.not_mem_nil,or_false]at b
   rcases b with rfl|rfl|rfl<;>rfl
  exact(List.map_congr_left this).trans (List.map_id _)
 rw[V.recol,this]
theorem Dd:∀ (c l:List V) (off:Nat),off+c.length<=l.length->Hs.setAt l off c=l.take off++c++l.drop (off+c.length)
 |[],l,off,_=>by simp[Hs.setAt]
 |v::r,l,off,h=>by
  simp only[List.length_cons]at h;rw[Hs.setAt,Dd r (l.set off v) (off+1) (by rw[List.length_set];omega)]
  have b:(l.set off v).take (off+1)=l.take off++[v]:=by
   rw[List.take_add_one,List.getElem?_set_self zo,List.take_set_of_le (Nat.le_refl _)]<;>rfl
  have a:(l.set off v).drop (off+1+r.length)=l.drop (off+(r.length+1)):=by
   rw[List.drop_set_of_lt zo]
   congr 1;omega
  rw[b,a];simp
theorem Zka{l c:List V}(h:c.length=l.length):Hs.setAt l 0 c=c:=by
 rw[Dd c l 0 zo,h];simp
theorem Hg(l:List V)(h:l.length=69):Hs.setAt l 0 tabC=tabC:=Zka (by rw[h]<;>rfl)
theorem Mh(G:Nat->V)(a:Y6 G):Spec Tryz.prog G 238 [] Zj (λv _=>v=.agg tabC):=by
 refine Zo 0 24 [.cell 0 296] Tryz.func238 λX=>?_;refine Z1 ?_;intro b;exact Zr
structure FnG(G:Nat->V)(f:FuncId)(cap:List V)(p:Sg->Bool):Prop where
 en:Z7 Tryz.prog f=true
 rc:cap.map (V.recol Col.ent)=cap
 sp:∀ s:Sg,Spec Tryz.prog G f (Ow s::cap) Zj (λv _=>v=.bool (p s))
theorem Zsi(f:Col->Col)(s:Sg):(Ow s).recol f=Ow s:=by simp only[L5,Xl,List.map_cons,List.map_nil,Yj,Vf]
theorem Hh(G:Nat->V)(j:Y6 G)(c:Col)(s:Sl Sg)(m:s.l.length<1000000){f:FuncId}{cap:List V}{p:Sg->Bool}(e:FnG G f cap p):
  Spec Tryz.prog G 257 [Za c 3 Ow s,.func (.func f) [] cap] Zj (λv _=>v=.int .i64 (Rz p s.l)):=by
 refine Zo 0 19 [.tmp 4] Tryz.func257 λX=>?_;refine Z1 ?_;refine Z1 ?_;refine AW.block ?_
 refine Yc s.l.length (λk (_:Unit)=>st [(0,Za c 3 Ow s),(1,.func (.func f) [] cap),(7,.int .i64 s.l.length),(8,.int .i64 k)] []) (λk _=>∀ y∈s.l.take k,p y=false) 0 () (Nat.zero_le _) zS
  (Weak.st zp zp) ?_
 intro k _ n d o g;refine Z1 ?_;refine Z6 ?_;refine Z2 rfl (λi=>?_) (λi=>?_);have a:k<s.l.length:=zu i;have b:=List.getElem?_eq_getElem a;generalize s.l[k]=x at b;refine Z1 ?_;refine Xm (zi b @L5) ?_;refine CallA.pure j e.en ?_;simp only[List.map_cons,e.rc,<- L5,Zsi];refine(e.sp x).mono ?_;rintro _ _ rfl;refine Zs ?_;refine Z2 rfl (λh=>?_) (λh=>?_);refine Z ?_;rw[V2 b d h];refine Z1 ?_;refine g _ ⟨a,(),take_all b d h,Weak.st zw zp⟩
 have a:k=s.l.length:=by simp at i;omega
 refine Z ?_;rw[a,List.take_length]at d;rw[V3 d]
theorem Zry(G:Nat->V)(e:Y6 G)(t:List UInt8)(p:Int)(s:Sg):Spec Tryz.prog G 258 [Ow s,.view .old (.str t),.view .old (.int .i64 p)] Zj (λv _=>v=.bool (Z6q t p s)):=by
 refine Zo 0 20 [.tmp 4] Tryz.func258 λX=>?_;simp only[L5];refine Yz λK a=>AW.region zk ?_;refine Zs ?_;intro f;refine a _ ?_
 try clear a K
 unfold Z6q
 cases d:(s.text==t)<;>cases c:(s.parts==p)<;>cases b:(s.text==[])<;>((refine Yz λK a=>AW.region zk ?_;simp -implicitDefEqProofs only[go_sem,seval,bne,d,c,b];refine a _ ?_;clear a K);(refine AW.ret ?_;refine Zs ?_;refine Vn ?_);rfl)
theorem fOf1{G:Nat->V}(a:Y6 G)(t:List UInt8)(p:Int):FnG G 258 [.view .old (.str t),.view .old (.int .i64 p)] (Z6q t p):=⟨zk,rfl,Zry G a t p⟩
theorem Zu7(t:List UInt8)(p:Int):Rz (Z6q t p) tabL=match ofI t p with|some i=>(i:Int)|none => -1:=rfl
def encOf(o:Nat×Bool):V:=.tuple [.int .u8 o.1,.bool o.2]
theorem Zw6{t:List UInt8}{p:Int}{i:Nat}(h:ofI t p=some i):i<23:=(List.findIdx?_eq_some_iff_getElem.1 h).1
theorem E0(G:Nat->V)(b:Y6 G)(t:List UInt8)(p:Int):Spec Tryz.prog G 240 [.str t,.int .i64 p] Zj (λv _=>v=encOf (Ch t p)):=by
 refine Zo 0 17 [.tmp 4,.tmp 5] Tryz.func240 λX=>?_;refine Z1 ?_;intro u r;refine Z1 ?_;refine Zn b ?_ (s:=(Mh G b));refine Xr (zi @Z6b (zi @Da @Nat.le_refl)) ?_;intro d;rw[Hg _ ?hl]
 case hl=>rfl
 refine Z6<|Qd 0 zk rfl rfl ?_
 refine Zs ?_;refine⟨_,B6 Tryz.underlying296 zk (ob:=6) (g:=d) (m:=3) (c:=.new) (fz:=0) (cs:=tabC) zp zp zd,?_⟩;refine CallA.bor b [Za .old 3 Ow (.mk false tabL),.func (.func 258) [] [.view .old (.str t),.view .old (.int .i64 p)]] zk ⟨?_,Z4p ⟨?_,?_,trivial⟩,trivial⟩ ?_
 exact Rd.msl (off:=0) (n:=23) (l:=tabL) (f:=Ow) (f':=Ow) (g:=d) (fz:=0) (c:=.new) zp Zjk (λx y a=>by
  simp only[L5,V.cells,List.mem_cons,List.not_mem_nil,or_false]at a
  rcases a with rfl|rfl|rfl
  exact .str _;exact .int _ _
  exact .int _ _) (Zsi _) zd
 exact Rd.ptr (v:=.str t) (c:=.new) (fz:=0) zp (by intro y a;simp[V.cells]at a;subst a;exact .str _) zp;exact Rd.ptr (v:=.int .i64 p) (c:=.new) (fz:=0) zp (by intro y a;simp[V.cells]at a;subst a;exact .int _ _) zp;refine(Hh G b _ (.mk false tabL) zd (fOf1 b t p)).mono ?_;rintro _ _ rfl;refine⟨.int _ _,?_⟩;refine Zs ?_;have j:=Zu7 t p;unfold Ch
 show AW _ _ _ _ { τ := Ya _ 7 (.int .i64 (Rz (Z6q t p) tabL)),H:=_ }
 rw[j]
 cases h:ofI t p with
 |none=>
  exact Zr
 |some i=>
  have q:=Zw6 h;refine AW.weak (Weak.st (l:=[(7,.int .i64 i)]) (m:=[]) zp zp) ?_
  have o:((0:Int)>(i:Int))=False:=by rw[eq_iff_iff,iff_false];omega
  have e:IntKind.u8.wrap (i:Int)=i:=by
   unfold IntKind.wrap;simp[IntKind.signed,IntKind.bits];omega
  have k:decide ((i:Int)>=0)=true:=zT;exact Zq (zi o (zi e k))
def Xp(n:XN):V:=.agg [.int .u8 n.op,.int .i64 n.num,.str n.name,.int .i64 n.a,.int .i64 n.b,.int .i64 n.c]
theorem Ux(n:XN):Xp n=.agg [.int .u8 n.op,.int .i64 n.num,.str n.name,.int .i64 n.a,.int .i64 n.b,.int .i64 n.c]:=rfl
theorem M4(n:XN):(Xp n).cells.length=6:=rfl
theorem Vr(t:Tk):Wu t=.agg [.int .u8 t.kind,.str t.text,.int .i64 t.pos]:=rfl
theorem Mp(f:Col->Col)(n:XN):(Xp n).recol f=Xp n:=by simp only[Ux,Xl,List.map_cons,List.map_nil,Yj,Vf]
theorem Zy5(f:Col->Col)(t:Tk):(Wu t).recol f=Wu t:=by simp only[Vr,Xl,List.map_cons,List.map_nil,Yj,Vf]
@[go_sem] theorem Vl(g:Col->Col)(c:Col)(s:Sl Tk):(Za c 3 Wu s).recol g=Za (g c) 3 Wu s:=Y8 g c 3 (Zy5 g) s
@[go_sem] theorem Xk(g:Col->Col)(c:Col)(s:Sl XN):(Za c 6 Xp s).recol g=Za (g c) 6 Xp s:=Y8 g c 6 (Mp g) s
def Aj(NO:Nat)(tl:List V)(sl:Sl Tk)(g gx:Nat)(r:RS):AObj:=.cells .any g 0 (Za .any 3 Wu sl::.int .i64 r.i::grown NO gx 6 r.nodes::.int .i64 r.e::tl)
def Ab(gx:Nat)(ns:List XN):AObj:=grownC .any gx Xp ns
theorem Vz(c:Nat)(a:List V)(b:Sl Tk)(g gx:Nat)(r:RS):Aj c a b g gx r=.cells .any g 0 (Za .any 3 Wu b::.int .i64 r.i::grown c gx 6 r.nodes::.int .i64 r.e::a):=rfl
def RdS(NO:Nat)(tl:List V)(G:Nat->V)(f:FuncId)(args:List V)(sl:Sl Tk)(g:Nat)(r:RS)(v:V)(r':RS):Prop:=
 ∀ gx,Spec Tryz.prog G f (.ptr 8 g 0::args) (Z5 Zj [(8,Aj NO tl sl g gx r),(NO,Ab gx r.nodes)]) (λb a=>b=v/\∃ gx',a 8=Aj NO tl sl g gx' r'/\a NO=Ab gx' r'.nodes)
theorem RdS.call{a:Nat}{b:List V}{G:Nat->V}(y:Y6 G){f:FuncId}{args args':List V}{d:Sl Tk}{g gx:Nat}{r r':RS}{v:V}(h:RdS a b G f args' d g r v r'){H:Heap}{K:V->Heap->Prop}
  (j:Z7 Tryz.prog f=true) (i:∀ F:Col->Col,b.map (V.recol F)=b) (t:8≠a) (c:args.map (V.recol Col.ent)=args') (s:v.recol Col.bk=v)
  (z:H 8=Aj a b d g gx r) (x:H a=Ab gx r.nodes)
  (u:∀ gx',K v (Z5 H [(8,Aj a b d g gx' r'),(a,Ab gx' r'.nodes)])):
  CallA Tryz.prog G f (.ptr 8 g 0::args) H K:=by
 have n:∀ (F:Col->Col) gx r,F .any=.any->(Aj a b d g gx r).recol F=Aj a b d g gx r:=by
  intro F gx r k;simp only[Vz,recol_cells,List.map_cons,So,Vl,Yj,k,i]
 have m:∀ (F:Col->Col) gx e,F .any=.any->(Ab gx e).recol F=Ab gx e:=by
  intro F gx e k;rw[Ab,Z8c F .any gx Xp Xp (Mp F),k]
 refine CallA.hand y [(8,Aj a b d g gx r),(a,Ab gx r.nodes)] j ?_ ?_;intro p l;simp only[List.mem_cons,List.not_mem_nil,or_false]at l
 rcases l with rfl|rfl
 rw[z,n _ _ _ rfl];rw[x,m _ _ _ rfl]
 have w:(V.ptr 8 g 0::args).map (V.recol Col.ent)=.ptr 8 g 0::args':=by rw[List.map_cons,Ln,c]
 rw[w];refine(h gx).mono ?_;rintro _ A ⟨rfl,gx',q,o⟩;simp only[List.map_cons,List.map_nil,q,o,n _ _ _ Zod,m _ _ _ Zod,s];exact u gx'
theorem X9{b:Nat}{c:List V}{G:Nat->V}(n:Y6 G){f:FuncId}{args args':List V}{d:Sl Tk}{g gx:Nat}{r r':RS}{v:V}(h:RdS b c G f args' d g r v r'){H:Heap}{K:V->Heap->Prop}
  (l:∀ gx',K v (Z5 H [(8,Aj b c d g gx' r'),(b,Ab gx' r'.nodes)])) (j:Z7 Tryz.prog f=true:=by kernel_rfl) (e:∀ F:Col->Col,c.map (V.recol F)=c:=by exact λF=>rfl) (i:8≠b:=by decide)
  (a:args.map (V.recol Col.ent)=args':=by exact zx) (k:v.recol Col.bk=v:=by exact zm) (o:H 8=Aj b c d g gx r:=by exact zr) (m:H b=Ab gx r.nodes:=by exact zr):
  CallA Tryz.prog G f (.ptr 8 g 0::args) H K:=RdS.call n h j e i a k o m l
structure TkOk(l:List Tk):Prop where
 len:l.length<100000
 text:∀ t∈l,t.text.length<100000
theorem Zcs{l:List Tk}{i:Nat}{t:Tk}(h:l[i]?=some t):Y3 l i=if(P6 t.text:Int)=t.kind then t else⟨0,[],0⟩:=by unfold Y3;rw[h]
theorem Zds{l:List Tk}{i:Nat}(h:l.length<=i):Y3 l i=⟨0,[],0⟩:=by unfold Y3;rw[List.getElem?_eq_none h]
theorem Kp(G:Nat->V)(n:GExp G)(a:Sl Tk)(q:TkOk a.l)(g:Nat)(r:RS)(s:r.i<1000000):RdS 1031 [.func (.func 219) [] []] G 239 [] a g r (Wu (Y3 a.l r.i)) r:=by
 have e:=n.ok;intro h;refine Zo 1000 50 [.cell 2 155] Tryz.func239 λX=>?_;simp only[Z5,Vz];refine Z1 ?_;intro u;refine Z6 ?_
 by_cases m:r.i<a.l.length
 have f:decide ((r.i:Int)<a.l.length)=true:=zT;have c:=List.getElem?_eq_getElem m;have p:=q.text _ (List.getElem_mem m);generalize a.l[r.i]=t at c p;have b:=Zcs c
 have k:Zkb Tryz.prog G 150 [.str t.text] (.int .u8 (P6 t.text)):=⟨zk,by
  refine Zs ?_;refine(Ry G n t.text zo).mono ?_;rintro _ _ rfl
  rfl⟩
 by_cases d:(P6 t.text:Int)=t.kind
 rw[if_pos d]at b;have j:((P6 t.text:Int)==t.kind)=true:=zu d
 refine Z6<|Zy ⟨λi=>if i=22 then .int .u8 (P6 t.text)else .top,λ_=>.pure⟩ zk e zk zk ?_
 refine Xr (zi f (zi c (zi @Vr j))) ?_;refine⟨k,?_⟩;refine Z2 rfl (λo=>?_) (λo=>?_);refine I7 (zi c @Vr) e ?_;refine Z ?_;exact⟨by rw[b]<;>rfl,h,zp,zp⟩;cases o;rw[if_neg d]at b;have j:((P6 t.text:Int)==t.kind)=false:=zu d
 refine Z6<|Zy ⟨λi=>if i=22 then .int .u8 (P6 t.text)else .top,λ_=>.pure⟩ zk e zk zk ?_
 refine Xr (zi f (zi c (zi @Vr j))) ?_;refine⟨k,?_⟩;refine Ve rfl ?_;refine Z ?_;exact⟨by rw[b]<;>rfl,h,zp,zp⟩;have f:decide ((r.i:Int)<a.l.length)=false:=zF;have b:=Zds (l:=a.l) (i:=r.i) zo;refine I7 f e ?_;refine Ve rfl ?_;refine Z ?_;exact⟨by rw[b]<;>rfl,h,zp,zp⟩
theorem Na(G:Nat->V)(d:Y6 G)(a:Sl Tk)(g:Nat)(r:RS)(c:r.nodes.length<1000000):RdS 1031 [.func (.func 219) [] []] G 241 [] a g r (.int .i64 r.last) r:=by
 intro b;refine Zo 1000 9 [.tmp 2] Tryz.func241 λX=>?_;simp only[Z5,Vz];refine Z ?_;exact⟨by rw[Wy zo zo]<;>rfl,b,zp,zp⟩
theorem Zcc{l:List Int}(h:l.length<=3):setAt [V.int .i64 (-1),V.int .i64 (-1),V.int .i64 (-1)] 0 (l.map (V.int .i64))=[V.int .i64 (l.getD 0 (-1)),V.int .i64 (l.getD 1 (-1)),V.int .i64 (l.getD 2 (-1))]:=by
 match l,h with
 |[],_=>rfl
 |[_],_=>rfl
 |[_,_],_=>rfl
 |[_,_,_],_=>rfl
theorem C7(k:IntKind)(l:List Int):flat (l.map (V.int k))=l.map (V.int k):=by
 induction l with
 |nil=>rfl
 |cons x r ih=>unfold flat at ih⊢;rw[List.map_cons,List.flatMap_cons,ih]<;>rfl
def Zra(n:XN)(ps:List Int):XN:={ n with a:=ps.getD 0 (-1),b:=ps.getD 1 (-1),c:=ps.getD 2 (-1) }
theorem Lk(G:Nat->V)(t:Y6 G)(h:Sl Tk)(g:Nat)(r:RS)(z:r.nodes.length<1000000)(n:XN)(c:Col)(ps:Sl Int)(d:ps.l.length<=3):
  RdS 1031 [.func (.func 219) [] []] G 242 [Xp n,Za c 1 (V.int .i64) ps] h g r (.bool true) (r.put (Zra n ps.l)):=by
 intro j;refine Zo 1000 34 [.tmp 6] Tryz.func242 λX=>?_;simp only[Z5,Vz,Ux];refine Z1 ?_;intro v;refine Z1 ?_;intro u
 refine Z6<|Jd 2 zk rfl rfl ?_
 refine Zs ?_;refine⟨_,_,GivesE.copy Tryz.underlying29 zk (ob:=1008) (g:=u) (m:=1) (len:=3) (cs:=[.int .i64 (-1),.int .i64 (-1),.int .i64 (-1)]) (c:=.new) (fz:=0) (off:=0) (n:=ps.l.length) (xc:=ps.l.map (V.int .i64)) zp zp (by refine Zs ?_;exact congrArg (λx=>some (ps.l.length,x)) (C7 _ _)) d (Nat.le_refl _) zO,?_⟩;rw[Zcc d];refine Zs ?_;have e:Zra n ps.l={ n with a:=ps.l.getD 0 (-1),b:=ps.l.getD 1 (-1),c:=ps.l.getD 2 (-1) }:=rfl;generalize ps.l.getD 0 (-1)=s at e⊢;generalize ps.l.getD 1 (-1)=q at e⊢;generalize ps.l.getD 2 (-1)=p at e⊢
 refine AW.weak (Zl (λo=>o==1008) (l:=[(0,.ptr 8 g 0),(4,.ptr 1004 v 0),(7,.slice .new false 1 [.int .i64 s,.int .i64 q,.int .i64 p])])
  (m:=[(8,Aj 1031 [.func (.func 219) [] []] h g j r),(1031,Ab j r.nodes),(1004,.cells .new v 0 [.int .u8 n.op,.int .i64 n.num,.str n.name,.int .i64 n.a,.int .i64 n.b,.int .i64 n.c])]) ?_ ?_) ?_
 refine Zs ?_;refine⟨Zb,Zb,?_⟩;exact Xa (f:=V.int .i64) (l:=[s,q,p]) (m:=1) (g:=u) (fz:=0) (c:=.new) rfl zp (λ_=>rfl);simp only[Zt,Zv,and_true];exact⟨FzO.keep rfl zp,FzO.keep rfl zp,FzO.keep rfl zp⟩
 refine Z6<|Zy ⟨λ_=>.top,λi=>if i=2 then .lend else if i=5 then .lend else if i=8 then .lend else .pure⟩ zk t zk zk ?_
 refine Xr @Vz ?_;refine AW.later ?_;refine ZT t ?_;intro w;refine Zau (f:=Xp) (l:=r.nodes) (l2:=[Zra n ps.l]) (g:=j) M4 rfl (by rw[e]<;>rfl) rfl zp (Z4 zo zO) λy k=>?_;refine Zs ?_;refine Z1 ?_;refine AW.ret ?_;refine Zs ?_;refine⟨st [(6,.bool true)] [(8,Aj 1031 [.func (.func 219) [] []] h g k (r.put (Zra n ps.l))),(1031,Ab k (r.nodes++[Zra n ps.l]))],Zl (λ_=>false) ?_ ?_,?_⟩;refine Zs ?_;exact Zb;simp only[Zt,Zv,and_true];exact⟨FzO.keep rfl zp,Z5w (c:=y) rfl zp⟩;refine Zs ?_;exact Vn ⟨rfl,k,zp,zp⟩
end Go.Hs
end

section
namespace Go.Hs
structure Bal(l:List Tk)(k:Nat)(r r':RS):Prop where
 up:r.i<=r'.i
 inn:r.i<=l.length->r'.i<=l.length
 cnt:r'.nodes.length+r.i+k<=r.nodes.length+r'.i
theorem Bal.refl(l:List Tk)(r:RS):Bal l 0 r r:=⟨Nat.le_refl _,id,Nat.le_refl _⟩
theorem Bal.trans{l:List Tk}{k k':Nat}{r r' a:RS}(h:Bal l k r r')(b:Bal l k' r' a):Bal l (k+k') r a:=
 ⟨Nat.le_trans h.up b.up,λx=>b.inn (h.inn x),by have:=h.cnt;have:=b.cnt;omega⟩
theorem Bal.weak{l:List Tk}{k k':Nat}{r r':RS}(h:Bal l k r r')(a:k'<=k):Bal l k' r r':=⟨h.up,h.inn,by have:=h.cnt;omega⟩
theorem Bal.adv{l:List Tk}{r:RS}(h:r.i<l.length):Bal l 1 r r.adv:=⟨Nat.le_succ _,λ_=>h,by show r.nodes.length+r.i+1<=r.nodes.length+(r.i+1);omega⟩
theorem Bal.err(l:List Tk)(r:RS)(e:Int):Bal l 0 r (r.err e):=⟨Nat.le_refl _,id,Nat.le_refl _⟩
theorem Bal.put{l:List Tk}{k:Nat}{r r':RS}(h:Bal l (k+1) r r')(n:XN):Bal l k r (r'.put n):=
 ⟨h.up,h.inn,by have:=h.cnt;show(r'.nodes++[n]).length+r.i+k<=_;rw[List.length_append,List.length_singleton];show _<=r.nodes.length+r'.i;omega⟩
def Zn4(l:List Tk)(inner:Inner):Prop:=∀ n r,Bal l 0 r (inner n r).2
theorem Bal.then{l:List Tk}{r:RS}{x:Bool×RS}{k:RS->Bool×RS}(h:Bal l 0 r x.2)(a:x.1=true->Bal l 0 r (k x.2).2):Bal l 0 r (andThen x k).2:=by
 obtain⟨b,c⟩:=x;cases b;exact h;exact a rfl
theorem Pa(l:List Tk)(w:List UInt8)(r:RS):Bal l 0 r (R5 l w r).2/\((R5 l w r).1=true->Bal l 1 r (R5 l w r).2):=by
 unfold R5
 split
 exact⟨Bal.err _ _ _,λh=>by cases h⟩;rename_i h;have a:(Y3 l r.i).kind≠0:=λb=>h (.inl b);have:=Bal.adv (Mu a);exact⟨this.weak (Nat.zero_le _),λ_=>this⟩
theorem Gb{l:List Tk}{r:RS}(h:(Y3 l r.i).kind≠0)(op b:Int)(a:List UInt8):Bal l 0 r (J8 r op b a).2:=(Bal.adv (Mu h)).put _
theorem Zgj{l:List Tk}{r:RS}(h:(Y3 l r.i).kind≠0)(t:List UInt8):Bal l 0 r (Qn r t).2:=by
 unfold Qn
 split
 exact Bal.err _ _ _;exact Gb h _ _ _
theorem A0{l:List Tk}{d:Inner}(h:Zn4 l d)(r:RS):Bal l 0 r (Tm l d r).2:=by
 have p:=Pa l wIf r;refine Bal.then p.1 λx=>?_;have t:=p.2 x;generalize(R5 l wIf r).2=k at t⊢;have g:=t.trans (h 1 k);refine Bal.then (g.weak (Nat.zero_le _)) λ_=>?_;generalize(d 1 k).2=a at g⊢;have o:=Pa l Zth a;refine Bal.then ((g.trans o.1).weak (Nat.zero_le _)) λw=>?_;have s:=g.trans (o.2 w);generalize(R5 l Zth a).2=j at s⊢;have f:=s.trans (h 1 j);refine Bal.then (f.weak (Nat.zero_le _)) λ_=>?_;generalize(d 1 j).2=b at f⊢;have n:=Pa l Zwh b;refine Bal.then ((f.trans n.1).weak (Nat.zero_le _)) λv=>?_;have q:=f.trans (n.2 v);generalize(R5 l Zwh b).2=i at q⊢;have e:=q.trans (h 1 i);refine Bal.then (e.weak (Nat.zero_le _)) λ_=>?_;generalize(d 1 i).2=c at e⊢;have m:=Pa l Hc c;refine Bal.then ((e.trans m.1).weak (Nat.zero_le _)) λu=>?_;have y:=e.trans (m.2 u);exact(y.put _).weak (Nat.zero_le _)
theorem Bw{l:List Tk}{a:Inner}(h:Zn4 l a)(r:RS):Bal l 0 r (Pg l a r).2:=by
 unfold Pg
 split
 rename_i e;exact Zgj (by grind) _
 split
 rename_i e;exact Gb (by grind) _ _ _
 split
 exact Bal.err _ _ _;rename_i c;have d:=Bal.adv (Mu c)
 split
 have b:=d.trans (h 9 r.adv);exact Bal.then (b.weak (Nat.zero_le _)) λ_=>b.put _
 split
 have b:=d.trans (h 1 r.adv);exact Bal.then (b.weak (Nat.zero_le _)) λ_=>(b.trans (Pa l [41] _).1).weak (Nat.zero_le _)
 split
 exact A0 h r
 split
 exact Gb c _ _ _;exact Bal.err _ _ _
theorem Zua{l:List Tk}{a:Inner}(h:Zn4 l a)(n:Int):∀ (m:Nat) (r:RS),Bal l 0 r (Mx l a n m r).2
 |0,r=>Bal.refl l r
 |m+1,r=>by
  rw[Mx]
  cases c:J0 l r.i with
  |none=>exact Bal.refl l r
  |some op=>
   simp only
   split
   exact Bal.refl l r;have b:=(Bal.adv (Zvx c)).trans (h (lvl op+1) r.adv);exact Bal.then (b.weak (Nat.zero_le _)) λ_=>((b.put _).trans (Zua h n m _)).weak (Nat.zero_le _)
theorem Se(l:List Tk):∀ f,Zn4 l (We l f)
 |0=>λ_ r=>Bal.refl l r
 |f+1=>λn r=>by
  have a:=Bw (Se l f) r;exact Bal.then a λ_=>(a.trans (Zua (Se l f) n _ _)).weak (Nat.zero_le _)
def I2(l:List Tk)(r:RS):Prop:=r.i<=l.length/\r.nodes.length<=r.i
theorem Bal.ok{l:List Tk}{k:Nat}{r r':RS}(h:Bal l k r r')(a:I2 l r):I2 l r':=⟨h.inn a.1,by have:=h.cnt;have:=a.2;omega⟩
inductive X where
 |leaf (op num:Int) (name:List UInt8)
 |un (op:Int) (a:X)
 |bin (op:Int) (a b:X)
 |ite (a b c:X)
 deriving DecidableEq,Inhabited
namespace X
def size:X->Nat
 |leaf .. => 1
 |un _ a=>a.size+1
 |bin _ a b=>a.size+b.size+1
 |ite a b c=>a.size+b.size+c.size+1
def depth:X->Nat
 |leaf .. => 1
 |un _ a=>a.depth+1
 |bin _ a b=>max a.depth b.depth+1
 |ite a b c=>max (max a.depth b.depth) c.depth+1
end X
def Pk(n:XN):Bool:=
 if n.op<1\/n.op>22\/n.num<0 then false else if n.op=2 then n.num==0&&P6 n.name==2 else n.name==[]&&(n.op==1||n.num==0)
namespace X
def ok:X->Bool
 |leaf op num name=>Pk ⟨op,num,name,-1,-1,-1⟩&&decide (op<=4)
 |un op a=>decide (5<=op)&&decide (op<=6)&&a.ok
 |bin op a b=>decide (7<=op)&&decide (op<=21)&&a.ok&&b.ok
 |ite a b c=>a.ok&&b.ok&&c.ok
def row:X->Int->List XN
 |leaf op num name,_=>[⟨op,num,name,-1,-1,-1⟩]
 |un op a,k=>a.row k++[⟨op,0,[],k+a.size-1,-1,-1⟩]
 |bin op a b,k=>a.row k++b.row (k+a.size)++[⟨op,0,[],k+a.size-1,k+a.size+b.size-1,-1⟩]
 |ite a b c,k=>a.row k++b.row (k+a.size)++c.row (k+a.size+b.size)++[⟨22,0,[],k+a.size-1,k+a.size+b.size-1,k+a.size+b.size+c.size-1⟩]
theorem row_len:∀ (x:X) (k:Int),(x.row k).length=x.size
 |leaf ..,_=>rfl
 |un _ a,k=>by simp[row,size,row_len a]
 |bin _ a b,k=>by simp[row,size,row_len a,row_len b];omega
 |ite a b c,k=>by simp[row,size,row_len a,row_len b,row_len c];omega
theorem size_pos:∀ x:X,0<x.size
 |leaf .. => by simp[size]
 |un .. => by simp[size]
 |bin .. => by simp[size]
 |ite .. => by simp[size]
def top:X->Int->XN
 |leaf op num name,_=>⟨op,num,name,-1,-1,-1⟩
 |un op a,k=>⟨op,0,[],k+a.size-1,-1,-1⟩
 |bin op a b,k=>⟨op,0,[],k+a.size-1,k+a.size+b.size-1,-1⟩
 |ite a b c,k=>⟨22,0,[],k+a.size-1,k+a.size+b.size-1,k+a.size+b.size+c.size-1⟩
end X
theorem Zyb{op:Int}(h:3<=op/\op<=22)(a b c:Int):Pk ⟨op,0,[],a,b,c⟩=true:=by
 unfold Pk
 grind
theorem Zx4{n:XN}(h:Pk n=true)(a:n.op≠1):n.num=0/\(n.op≠2->n.name=[])/\1<=n.op/\n.op<=22:=by
 unfold Pk at h
 grind
theorem Kr{n:XN}(h:Pk n=true):1<=n.op/\n.op<=22:=by
 unfold Pk at h
 grind
def Yl(op:Int):Nat:=if op<=4 then 0 else if op<=6 then 1 else if op<=21 then 2 else 3
def Vd(l:List (Int×Int)):List Int:=[(l.map (·.1)).getD 0 (-1),(l.map (·.1)).getD 1 (-1),(l.map (·.1)).getD 2 (-1)]
def Ug(l:List (Int×Int)):Int:=l.foldl (λd p=>max d p.2) 0
def L8(i:Int)(n:XN)(opn:List (Int×Int)):Option (List (Int×Int)):=
 if Pk n=false then none else if opn.length<Yl n.op then none
 else if Vd (opn.drop (opn.length-Yl n.op))≠[n.a,n.b,n.c]then none
 else some (opn.take (opn.length-Yl n.op)++[(i,Ug (opn.drop (opn.length-Yl n.op))+1)])
def Px:List XN->Int->List (Int×Int)->Option (List (Int×Int))
 |[],_,opn=>some opn
 |n::r,i,opn=>match L8 i n opn with
  |some o=>Px r (i+1) o
  |none=>none
def Uf(l:List XN):Int:=match Px l 0 []with
 |some [x]=>x.2
 |_=>0
def Pz:Int->List X->List XN
 |_,[]=>[]
 |k,x::r=>x.row k++Pz (k+x.size) r
def Tr(F:List X):Nat:=(F.map X.size).sum
def X7:Int->List X->List (Int×Int)
 |_,[]=>[]
 |k,x::r=>(k+x.size-1,(x.depth:Int))::X7 (k+x.size) r
theorem Kw(x:X)(r:List X):Tr (x::r)=x.size+Tr r:=by rfl
theorem Zfz(a b:List X):Tr (a++b)=Tr a+Tr b:=by simp[Tr]
theorem Dk:∀ (a b:List X) (k:Int),Pz k (a++b)=Pz k a++Pz (k+Tr a) b
 |[],b,k=>by simp[Pz,Tr]
 |x::a,b,k=>by
  rw[List.cons_append,Pz,Pz,Dk a b,List.append_assoc,Kw]
  congr 3;omega
theorem Nn:∀ (a b:List X) (k:Int),X7 k (a++b)=X7 k a++X7 (k+Tr a) b
 |[],b,k=>by simp[X7,Tr]
 |x::a,b,k=>by
  rw[List.cons_append,X7,X7,Nn a b,Kw]
  congr 3;omega
theorem Nm:∀ (F:List X) (k:Int),(X7 k F).length=F.length
 |[],_=>rfl
 |x::r,k=>by simp[X7,Nm r]
theorem Jt:∀ (F:List X) (k:Int),(Pz k F).length=Tr F
 |[],_=>rfl
 |x::r,k=>by rw[Pz,List.length_append,X.row_len,Jt r,Kw]
theorem Zvq{F:List X}{p:Nat}(h:p<=F.length):∃ A B,F=A++B/\B.length=p:=⟨F.take (F.length-p),F.drop (F.length-p),(List.take_append_drop _ _).symm,by grind⟩
theorem Zed{F:List X}{n:XN}{o:List (Int×Int)}(i:∀ x∈F,x.ok=true)(h:L8 (Tr F) n (X7 0 F)=some o):
  ∃ F',(∀ x∈F',x.ok=true)/\Pz 0 F'=Pz 0 F++[n]/\o=X7 0 F':=by
 unfold L8 at h;rw[Nm]at h
 split at h
 cases h;rename_i l
 have l:Pk n=true:=by simpa using l
 have t:=Kr l
 split at h
 cases h;rename_i E;obtain⟨A,B,rfl,e⟩:=Zvq (F:=F) (p:=Yl n.op) (by omega)
 have v:(A++B).length-Yl n.op=A.length:=by rw[List.length_append,e];omega
 have g:(X7 0 (A++B)).drop A.length=X7 (Tr A) B:=by
  rw[Nn,List.drop_left' (Nm _ _),Int.zero_add]
 have f:(X7 0 (A++B)).take A.length=X7 0 A:=by
  rw[Nn,List.take_left' (Nm _ _)]
 rw[v,g,f]at h
 split at h
 cases h;rename_i d;simp only[ne_eq,Decidable.not_not]at d;simp only[Option.some.injEq]at h;have m:∀ x∈A,x.ok=true:=λx s=>i x (by simp[s])
 have fin:∀ x:X,x.ok=true->x.row (Tr A)=Pz (Tr A) B++[n]->(x.depth:Int)=Ug (X7 (Tr A) B)+1 ->
   ∃ F',(∀ x∈F',x.ok=true)/\Pz 0 F'=Pz 0 (A++B)++[n]/\o=X7 0 F':=by
  intro x s C H;refine⟨A++[x],λy G=>?_,?_,?_⟩
  rcases List.mem_append.1 G with q|q
  exact m y q;rw[List.mem_singleton.1 q];exact s;rw[Dk,Dk,List.append_assoc,Int.zero_add,<- C];simp[Pz];rw[<- h,Nn,X7,X7,H];have q:(x.row (Tr A)).length=x.size:=X.row_len _ _;rw[C,List.length_append,Jt,List.length_singleton]at q;rw[Zfz]
  congr 4
  omega
 obtain⟨j,r,k,a,b,c⟩:=n;simp only at e d t;unfold Yl at e
 split at e
 rename_i J;obtain rfl:B=[]:=List.length_eq_zero_iff.1 e;simp only[Vd,X7,List.map_nil,List.getD_nil,List.cons.injEq,and_true]at d;obtain⟨rfl,rfl,rfl⟩:=d;exact fin (.leaf j r k) (by unfold X.ok;rw[l];simp;omega) rfl rfl;rename_i J;have D:=Zx4 l (show j≠1 by omega);simp only at D;obtain⟨rfl,u,_⟩:=D;obtain rfl:=u (by omega)
 split at e
 rename_i I;obtain⟨x,rfl⟩:=List.length_eq_one_iff.1 e;simp only[Vd,X7,List.map_cons,List.map_nil,List.getD_cons_zero,List.getD_cons_succ,List.getD_nil,List.cons.injEq,and_true]at d;obtain⟨rfl,rfl,rfl⟩:=d;refine fin (.un j x) (by unfold X.ok;rw[i x (by simp)];simp;omega) ?_ ?_;simp[X.row,Pz];simp[X.depth,X7,Ug];rename_i I
 split at e
 rename_i w
 obtain⟨x,y,rfl⟩:∃ x y,B=[x,y]:=by
  match B,e with
  |[x,y],_=>exact⟨x,y,rfl⟩
 simp only[Vd,X7,List.map_cons,List.map_nil,List.getD_cons_zero,List.getD_cons_succ,List.getD_nil,List.cons.injEq,and_true]at d;obtain⟨rfl,rfl,rfl⟩:=d;refine fin (.bin j x y) (by unfold X.ok;rw[i x (by simp),i y (by simp)];simp;omega) ?_ ?_;simp[X.row,Pz];simp[X.depth,X7,Ug];omega;rename_i w
 obtain⟨x,y,z,rfl⟩:∃ x y z,B=[x,y,z]:=by
  match B,e with
  |[x,y,z],_=>exact⟨x,y,z,rfl⟩
 simp only[Vd,X7,List.map_cons,List.map_nil,List.getD_cons_zero,List.getD_cons_succ,List.cons.injEq,and_true]at d;obtain⟨rfl,rfl,rfl⟩:=d
 obtain rfl:j=22:=by omega
 refine fin (.ite x y z) (by unfold X.ok;rw[i x (by simp),i y (by simp),i z (by simp)];rfl) ?_ ?_;simp[X.row,Pz];simp[X.depth,X7,Ug];omega
theorem Bi:∀ (l:List XN) (F:List X) (opn:List (Int×Int)),(∀ x∈F,x.ok=true)->Px l (Tr F) (X7 0 F)=some opn ->
  ∃ F',(∀ x∈F',x.ok=true)/\Pz 0 F'=Pz 0 F++l/\opn=X7 0 F'
 |[],F,opn,hF,h=>⟨F,hF,by simp,by simpa[Px]using h.symm⟩
 |n::r,F,opn,hF,h=>by
  rw[Px]at h
  cases b:L8 (Tr F) n (X7 0 F)with
  |none=>grind
  |some o=>
   rw[b]at h;obtain⟨c,e,d,rfl⟩:=Zed hF b
   have a:(Tr F:Int)+1=Tr c:=by
    have:=congrArg List.length d;rw[List.length_append,Jt,Jt,List.length_singleton]at this;omega
   rw[a]at h;obtain⟨F',i,g,f⟩:=Bi r c opn e h
   grind
theorem Znt{l:List XN}(h:Uf l≠0):∃ x:X,x.ok=true/\l=x.row 0:=by
 unfold Uf at h
 split at h
 .rename_i y hy
  obtain⟨F,c,b,a⟩:=Bi l [] _ (by simp) (by simpa[Tr,X7]using hy)
  match F,a with
  |[x],_=>exact⟨x,c x (by simp),by simpa[Pz]using b.symm⟩
  |[],a=>simp[X7]at a
  |_::_::_,a=>simp[X7]at a
 grind
def after(r:RS)(k:Nat)(x:X):RS:=⟨r.i+k,r.nodes++x.row r.nodes.length,r.e⟩
end Go.Hs
end

section
namespace Go.Hs
open Go.Proofs
set_option maxRecDepth 10000
theorem wu8R{z:Int}(h:0<=z)(a:z<256):IntKind.u8.wrap z=z:=by
 unfold IntKind.wrap;simp[IntKind.signed,IntKind.bits];omega
theorem Ah(G:Nat->V)(s:List UInt8):Spec Tryz.prog G 264 [.str s,.str [48]] Zj (λv _=>v=.str (s.dropWhile (· == 48))):=by
 refine T6 λX a _ _ h=>?_;obtain⟨x,y,rfl,g,f⟩:=h.two;obtain⟨d,rfl,rfl⟩:=g.str_inv;obtain⟨b,rfl,c⟩:=f.str_inv
 obtain rfl:b=⟨#[48]⟩:=by
  obtain⟨⟨l⟩⟩:=b;simp at c;rw[c]
 refine(show Calls Tryz.prog 264 _ _ _ from Any.strings_TrimLeft_one Z0m d 48 zd X.w).mono ?_;rintro e w' ⟨rfl,rfl⟩;exact⟨_,_,rfl,RowKit.Below.refl _ _,.str _ _ rfl,by simp[Lib.trimLeftB]⟩
theorem Kq(G:Nat->V)(e:Y6 G)(d:Sl Tk)(g:Nat)(r:RS)(hi:r.i<1000000)(h:r.nodes.length<1000000)(op b:Int)(a:List UInt8)(x y z:Int):
  RdS 1031 [.func (.func 219) [] []] G 254 [Xp ⟨op,b,a,x,y,z⟩] d g r (.bool true) (J8 r op b a).2:=by
 intro gx;refine Zo 1000 15 [.tmp 4] Tryz.func254 λX=>?_
 have f:IntKind.i64.wrap ((r.i:Int)+1)=((r.i+1:Nat):Int):=by rw[Wy zo zo];omega
 simp only[Z5,Vz,Ux];refine Z1 ?_;intro j;refine Xm f ?_;refine Z1 ?_;rw[<- Ux ⟨op,b,a,x,y,z⟩];refine X9 e (Lk G e d g r.adv h ⟨op,b,a,x,y,z⟩ .any .nil zd) (gx:=gx) λc=>?_;refine Zu ?_;refine Z ?_;exact⟨rfl,c,zp,zp⟩
theorem I8(G:Nat->V)(n:GExp G)(a:Sl Tk)(q:TkOk a.l)(g:Nat)(r:RS)(hi:r.i<1000000)(w:List UInt8):
  RdS 1031 [.func (.func 219) [] []] G 255 [.str w] a g r (.bool (R5 a.l w r).1) (R5 a.l w r).2:=by
 have s:=n.ok;intro gx;refine Zo 1000 27 [.tmp 4] Tryz.func255 λX=>?_
 have o:IntKind.i64.wrap ((r.i:Int)+1)=((r.i+1:Nat):Int):=by rw[Wy zo zo];omega
 refine Z1 ?_;refine Z1 ?_;refine X9 s (Kp G n a q g r hi) (gx:=gx) λc=>?_;refine Zu ?_;refine Xr @Vr ?_;intro u
 have b:R5 a.l w r=if(Y3 a.l r.i).kind=0\/(Y3 a.l r.i).text≠w then(false,r.err 80)else(true,r.adv):=rfl
 generalize Y3 a.l r.i=t at b⊢;obtain⟨k,t,p⟩:=t;simp only at b
 by_cases f:k=0
 have j:(k==0)=true:=zu f;rw[if_pos (.inl f)]at b;refine Xm j ?_;refine Z2 rfl (λd=>?_) (λd=>?_);refine Zf @Vz ?_;rw[b];exact⟨rfl,c,zp,zp⟩;cases d;have j:(k==0)=false:=zu f
 by_cases e:t=w
 have m:(t==w)=true:=zu e;rw[if_neg (by rintro(h|h);exact f h;exact h e)]at b;refine Ua zk ?_;simp -implicitDefEqProofs only[go_sem,seval,j,bne,m];refine Ve rfl ?_;refine Zf (zi @Vz o) ?_;rw[b];exact⟨rfl,c,zp,zp⟩;have m:(t==w)=false:=zu e;rw[if_pos (.inr e)]at b;refine Ua zk ?_;simp -implicitDefEqProofs only[go_sem,seval,j,bne,m];refine Z2 rfl (λd=>?_) (λd=>?_);refine Zf @Vz ?_;rw[b];exact⟨rfl,c,zp,zp⟩;cases d
theorem Zyy(t:List UInt8):(Mj t).length<=t.length+1:=by
 unfold Mj
 split
 simp;exact Nat.le_trans ((List.dropWhile_sublist _).length_le) (Nat.le_succ _)
theorem Zrb(G:Nat->V)(m:GExp G)(h:Sl Tk)(g:Nat)(r:RS)(hi:r.i<1000000)(p:r.nodes.length<1000000)(t:List UInt8)(v:t.length<100000):
  RdS 1031 [.func (.func 219) [] []] G 253 [.str t] h g r (.bool (Qn r t).1) (Qn r t).2:=by
 have f:=m.ok;intro gx;refine Zo 1000 26 [.tmp 4] Tryz.func253 λX=>?_;refine Z1 ?_;refine Z1 ?_;refine Zc f ?_ (s:=(Ah G t))
 have j:Mj t=if t.dropWhile (· == 48)=[]then[48]else t.dropWhile (· == 48):=rfl
 have b:Qn r t=if(Sw (Mj t)).2≠0 then(false,r.err (Sw (Mj t)).2)else J8 r 1 (Sw (Mj t)).1 []:=rfl
 have u:=Zyy t;refine Wq (fun(_:Unit)=>st [(0,.ptr 8 g 0),(1,.str (Mj t))] [(8,Aj 1031 [.func (.func 219) [] []] h g gx r),(1031,Ab gx r.nodes)]) (λ_=>True) (λw a=>?_) ?_;rw[j]at a;refine Z1 ?_;refine Z2 rfl (λc=>?_) (λc=>?_);have c:t.dropWhile (· == 48)=[]:=zu c;rw[if_pos c]at a;refine Z1 ?_;exact a _ () trivial (Weak.st zp (by simp -implicitDefEqProofs only[go_sem,seval,Z5]));have c:¬ t.dropWhile (· == 48)=[]:=zu c;rw[if_neg c]at a;refine Z0 ?_;exact a _ () trivial (Weak.st zp (by simp -implicitDefEqProofs only[go_sem,seval,Z5]));intro _ _;generalize Mj t=s at u b⊢;refine Z1 ?_;refine Zn f ?_ (s:=(Zmj G m.toGNum s zo));generalize Sw s=q at b⊢;obtain⟨n,e⟩:=q;simp only at b;refine Xr @encR.eq_1 ?_;refine Z6 ?_
 by_cases d:e=0
 have l:(e==0)=true:=zu d;rw[if_neg (show ¬ e≠0 by simpa using d)]at b;refine Ua zk ?_;simp -implicitDefEqProofs only[go_sem,seval,bne,l];refine Ve rfl ?_;refine Z1 ?_;rw[<- Ux ⟨1,n,[],0,0,0⟩];refine X9 f (Kq G f h g r hi p 1 n [] 0 0 0) (gx:=gx) λk=>?_;refine Zu ?_;refine Z ?_;rw[b];exact⟨rfl,k,zp,zp⟩;have l:(e==0)=false:=zu d;rw[if_pos d]at b;refine Ua zk ?_;simp -implicitDefEqProofs only[go_sem,seval,bne,l];refine Z2 rfl (λo=>?_) (λo=>?_);refine Zf @Vz ?_;rw[b];exact⟨rfl,gx,zp,zp⟩;cases o
def Z4w(G:Nat->V)(sl:Sl Tk)(g:Nat)(inner:Inner)(i0:Nat):Prop:=
 ∀ n r,1<=n->n<=9->i0<r.i->I2 sl.l r->RdS 1031 [.func (.func 219) [] []] G 219 [.int .i64 n] sl g r (.bool (inner n r).1) (inner n r).2
theorem H8{l:List Tk}(a:TkOk l)(i:Nat):(Y3 l i).text.length<100000:=by
 unfold Y3
 split
 rename_i t h
 split
 exact a.text _ (List.mem_of_getElem? h);exact Nat.zero_lt_succ _;exact Nat.zero_lt_succ _
theorem Zz1(l:List Tk)(w:List UInt8)(r:RS):(R5 l w r).1=true->(R5 l w r).2=r.adv:=by
 unfold R5
 split
 intro h;cases h;exact λ_=>rfl
def Zoa(l:List Tk)(inner:Inner):List (List UInt8)->List Int->RS->Bool×RS
 |[],parts,r=>andThen (R5 l Hc r) λb=>(true,b.put (Zra ⟨22,0,[],0,0,0⟩ parts))
 |w::ws,parts,r=>andThen (R5 l w r) λc=>andThen (inner 1 c) λa=>Zoa l inner ws (parts++[a.last]) a
theorem Az(l:List Tk)(a:Inner)(r:RS):Tm l a r=Zoa l a [wIf,Zth,Zwh] [] r:=rfl
def brW:List (List UInt8):=[wIf,Zth,Zwh]
theorem E2(G:Nat->V)(Y:GExp G)(e:Sl Tk)(U:TkOk e.l)(g:Nat)(r:RS)(hr:I2 e.l r)(c:Inner)(Q:Z4w G e g c r.i)(hb:Zn4 e.l c):
  RdS 1031 [.func (.func 219) [] []] G 256 [] e g r (.bool (Tm e.l c r).1) (Tm e.l c r).2:=by
 have p:=Y.ok;have hTl:=U.len;intro gx;refine Zo 1000 37 [.tmp 2] Tryz.func256 λX=>?_;refine Z1 ?_;refine Z1 ?_;refine Z1 ?_;refine AW.block ?_
 refine Yc 3 (λk (x:Nat×Nat×List Int×RS)=>st [(0,.ptr 8 g 0),(3,grown 1027 x.1 1 x.2.2.1),(6,.agg (brW.map V.str)),(7,.int .i64 k)] [(1027,Yb x.1 (V.int .i64) x.2.2.1),(8,Aj 1031 [.func (.func 219) [] []] e g x.2.1 x.2.2.2),(1031,Ab x.2.1 x.2.2.2.nodes)])
  (λk x=>Tm e.l c r=Zoa e.l c (brW.drop k) x.2.2.1 x.2.2.2/\I2 e.l x.2.2.2/\r.i<=x.2.2.2.i/\x.2.2.1.length=k) 0 (0,gx,[],r) (Nat.zero_le _) ⟨Az _ _ _,hr,Nat.le_refl _,rfl⟩
  (Weak.st (by refine Zs ?_;exact⟨rfl,rfl⟩) (by simp -implicitDefEqProofs only[go_sem,seval,Z5];try rfl)) ?_
 rintro k ⟨gp,J,d,q⟩ hk ⟨j,E,C,v⟩ L2 W;have j:Tm e.l c r=Zoa e.l c (brW.drop k) d q:=j;have E:I2 e.l q:=E;have C:r.i<=q.i:=C;have v:d.length=k:=v
 have D:q.i<1000000:=by have:=E.1;omega
 refine Z1 ?_;refine Z6 ?_;refine Z2 rfl (λB=>?_) (λB=>?_)
 .have hk1:k<3:=by have B:decide ((k:Int)<3)=true:=B;simp at B;omega
  refine Z0 ?_;refine Z6 ?_;refine AW.block ?_
  obtain⟨w,M,L⟩:∃ w,(brW.map V.str)[k]?=some (.str w)/\brW.drop k=w::brW.drop (k+1):=by
   have F:k<brW.length:=hk1;exact⟨brW[k],by rw[List.getElem?_map,List.getElem?_eq_getElem F]<;>rfl,List.drop_eq_getElem_cons F⟩
  have H:(k:Int)<3:=zo;rw[L,Zoa]at j;have m:=Pa e.l w q;have A:=Zz1 e.l w q;have h:=I8 G Y e U g q D w;generalize R5 e.l w q=y at j m h A;obtain⟨b,t⟩:=y;simp only at m h A;refine Xm (zi M (zi H (zi @Int.natCast_nonneg @Nat.mul_one))) ?_;refine Z6 ?_
  cases b with
  |false=>
   rw[T5]at j;refine Z1 ?_;refine X9 p (h) (gx:=J) λgz=>?_;refine Zu ?_;refine Z2 rfl (λI=>?_) (λI=>?_);refine Z ?_;rw[j];exact⟨rfl,gz,zr,zr⟩;cases I
  |true=>
   rw[Tn]at j;have R:=m.2 rfl;have n:=R.ok E
   have P:r.i<t.i:=by rw[A rfl];show r.i<q.i+1;omega
   have K:=Q 1 t zd zd P n;have u:=hb 1 t;generalize c 1 t=z at j K u;obtain⟨b,a⟩:=z;simp only at K u;have T:=u.ok n
   have S:a.nodes.length<1000000:=by have:=T.1;have:=T.2;omega
   cases b with
   |false=>
    rw[T5]at j;refine Xm @Vz ?_;refine X9 p (h) (gx:=J) λgz=>?_;refine Zu ?_;refine Xr @Vz ?_;refine X9 p (K) (gx:=gz) λs=>?_;refine Zu ?_;refine Z2 rfl (λI=>?_) (λI=>?_);refine Z ?_;rw[j];exact⟨rfl,s,zr,zr⟩;cases I
   |true=>
    rw[Tn]at j;refine Xm @Vz ?_;refine X9 p (h) (gx:=J) λgz=>?_;refine Zu ?_;refine Xr @Vz ?_;refine X9 p (K) (gx:=gz) λs=>?_;refine Zu ?_;refine Ve rfl ?_;refine Z1 ?_;refine X9 p (Na G p e g a S) (gx:=s) λgz3=>?_;refine Zu ?_;intro g26;refine Ys (f:=V.int .i64) (l:=d) (l2:=[a.last]) (g:=gp) (λ_=>rfl) rfl rfl rfl zp (Z4 zo zO) λg27=>?_;refine Zs ?_;refine Z1 ?_;refine W _ ⟨hk1,(g27,gz3,d++[a.last],a),⟨j,T,?_,?_⟩,Weak.st zw zp⟩
    show r.i<=a.i
    have:=u.up;omega
    show(d++[a.last]).length=k+1
    rw[List.length_append,List.length_singleton,v]
 .have hk1:k=3:=by have B:decide ((k:Int)<3)=false:=B;simp at B;omega
  refine Z0 ?_;rw[hk1,show brW.drop 3=[]from rfl,Zoa]at j;have m:=Pa e.l Hc q;have h:=I8 G Y e U g q D Hc;generalize R5 e.l Hc q=y at j m h;obtain⟨b,t⟩:=y;simp only at m h;have n:=(m.1).ok E
  have N:t.nodes.length<1000000:=by have:=n.1;have:=n.2;omega
  cases b with
  |false=>
   rw[T5]at j;refine Z1 ?_;refine X9 p (h) (gx:=J) λgz=>?_;refine Zu ?_;refine Z ?_;rw[j];exact⟨rfl,gz,zr,zr⟩
  |true=>
   rw[Tn]at j;refine Z1 ?_;refine X9 p (h) (gx:=J) λgz=>?_;refine Zu ?_;refine Wf (λo=>o==1027) [.ptr 8 g 0,Xp ⟨22,0,[],0,0,0⟩,Za .new 1 (V.int .i64) (Zd d)] [(8,Aj 1031 [.func (.func 219) [] []] e g gz t),(1031,Ab gz t.nodes)] ⟨Zb,Zb,?_,trivial⟩ ?_ ?_;exact Y5 (g:=gp) rfl zp (λ_=>rfl);simp only[Zt,Zv,and_true];exact⟨FzO.keep rfl zp,FzO.keep rfl zp⟩
   have O:(Zd d).l.length<=3:=by rw[Zm];omega
   refine X9 p (Lk G p e g t N ⟨22,0,[],0,0,0⟩ .old (Zd d) O) (gx:=gz) λs=>?_;refine Zu ?_;refine Z ?_;rw[j];exact⟨rfl,s,zr,zr⟩
theorem Zoh(G:Nat->V)(U:GExp G)(e:Sl Tk)(R:TkOk e.l)(g:Nat)(r:RS)(W:I2 e.l r)(d:Inner)(M:Z4w G e g d r.i)(Y:Zn4 e.l d):
  RdS 1031 [.func (.func 219) [] []] G 237 [] e g r (.bool (Pg e.l d r).1) (Pg e.l d r).2:=by
 have u:=U.ok;have hTl:=R.len
 have F:r.i<1000000:=by have:=W.1;omega
 have L:r.nodes.length<1000000:=by have:=W.2;omega
 have hw:IntKind.i64.wrap ((r.i:Int)+1)=((r.i+1:Nat):Int):=by rw[Wy zo zo];omega
 intro gx;refine Zo 1000 107 [.tmp 2] Tryz.func237 λX=>?_
 have j:Pg e.l d r=if(Y3 e.l r.i).kind=1 then Qn r (Y3 e.l r.i).text
  else if(Y3 e.l r.i).kind=2 then J8 r 2 0 (Y3 e.l r.i).text
  else if(Y3 e.l r.i).kind=0 then(false,r.err 80)
  else if(Ch (Y3 e.l r.i).text 1).2 then andThen (d 9 r.adv) λa=>(true,a.put ⟨(Ch (Y3 e.l r.i).text 1).1,0,[],a.last,-1,-1⟩)
  else if(Y3 e.l r.i).text=[40]then andThen (d 1 r.adv) (R5 e.l [41])
  else if(Y3 e.l r.i).text=wIf then Tm e.l d r
  else if(Ch (Y3 e.l r.i).text 0).2/\(Y3 e.l r.i).kind=3 then J8 r (Ch (Y3 e.l r.i).text 0).1 0 []
  else(false,r.err 80):=rfl
 have K:=H8 R r.i;have C:(Y3 e.l r.i).kind≠0->I2 e.l r.adv:=λh=>(Bal.adv (Mu h)).ok W
 have w:(Y3 e.l r.i).kind=0->(Ch (Y3 e.l r.i).text 0).2=false:=λh=>by
  unfold Ch
  cases ho:ofI (Y3 e.l r.i).text 0 with
  |none=>rfl
  |some i=>
   have P:=Zkj e.l r.i;rw[h]at P
   rcases Zv6 ho with ⟨h,_⟩|⟨h,_⟩
   rw[h]at P;exact absurd P zd;rw[h]at P;exact absurd P zd
 refine Z1 ?_;refine Z1 ?_;refine X9 u (Kp G U e R g r F) (gx:=gx) λq=>?_;refine Zu ?_;refine Xr @Vr ?_;intro g3;generalize Y3 e.l r.i=t at j K C w⊢;obtain⟨k,t,p⟩:=t;simp only at j K C w;refine Z1 ?_;refine Zn u ?_ (s:=(E0 G u t 1));generalize Ch t 1=o1 at j⊢;obtain⟨N,one⟩:=o1;simp only at j;refine Xr @encOf.eq_1 ?_
 refine Wq (fun(_:Unit)=>st [(0,.ptr 8 g 0),(3,.ptr 1003 g3 0)] [(1003,.cells .new g3 0 [.int .u8 k,.str t,.int .i64 p]),(8,Aj 1031 [.func (.func 219) [] []] e g q r),(1031,Ab q r.nodes)])
  (λ_=>(k=0\/(k≠0/\k≠1/\k≠2/\one=false/\t≠[40]/\t≠wIf))) (λK1 T=>?_) ?_
 .refine AW.block ?_
  by_cases k1:k=1
  have e1:(k==1)=true:=zu k1;rw[if_pos k1]at j;refine Xm e1 ?_;refine Z2 rfl (λE=>?_) (λE=>?_);refine Z1 ?_;refine X9 u (Zrb G U e g r F L t K) (gx:=q) λn=>?_;refine Zu ?_;refine Z ?_;rw[j];exact⟨rfl,n,zr,zr⟩;cases E;have e1:(k==1)=false:=zu k1;rw[if_neg k1]at j;refine Xm e1 ?_;refine Ve rfl ?_
  try clear E
  by_cases k2:k=2
  have e2:(k==2)=true:=zu k2;rw[if_pos k2]at j;refine Xm e2 ?_;refine Z2 rfl (λE=>?_) (λE=>?_);refine Z1 ?_;rw[<- Ux ⟨2,0,t,0,0,0⟩];refine X9 u (Kq G u e g r F L 2 0 t 0 0 0) (gx:=q) λn=>?_;refine Zu ?_;refine Z ?_;rw[j];exact⟨rfl,n,zr,zr⟩;cases E;have e2:(k==2)=false:=zu k2;rw[if_neg k2]at j;refine Xm e2 ?_;refine Ve rfl ?_
  try clear E
  by_cases A:k=0
  have e0:(k==0)=true:=zu A;refine Xm e0 ?_;refine Z2 rfl (λE=>?_) (λE=>?_);refine Z0 ?_;exact T _ () (.inl A) (Weak.st zp zp);cases E;have e0:(k==0)=false:=zu A;rw[if_neg A]at j;have I:=C A;refine Xm e0 ?_;refine Ve rfl ?_
  try clear E
  refine Z1 ?_;refine Z2 rfl (λh3=>?_) (λh3=>?_)
  .subst h3
   rw[if_pos rfl]at j;have H:=M 9 r.adv zd zd (Nat.lt_succ_self _) I;have v:=(Y 9 r.adv).ok I;generalize d 9 r.adv=x at H j v;obtain⟨b,a⟩:=x;simp only at H v
   have Q:a.nodes.length<1000000:=by have:=v.1;have:=v.2;omega
   refine Xm (zi @Vz hw) ?_
   cases b with
   |false=>
    refine Xm @Vz ?_;refine X9 u (H) (gx:=q) λn=>?_;refine Zu ?_;refine Z ?_;rw[j];exact⟨rfl,n,zr,zr⟩
   |true=>
    refine Xm @Vz ?_;refine X9 u (H) (gx:=q) λn=>?_;refine Zu ?_;refine X9 u (Na G u e g a Q) (gx:=n) λz=>?_;refine Zu ?_;intro g58;refine Wf (λo=>o==1058) [.ptr 8 g 0,Xp ⟨N,0,[],0,0,0⟩,.slice .new false 1 [.int .i64 a.last]] [(8,Aj 1031 [.func (.func 219) [] []] e g z a),(1031,Ab z a.nodes)] ⟨Zb,Zb,?_,trivial⟩ ?_ ?_;exact Xa (f:=V.int .i64) (l:=[a.last]) (m:=1) (g:=g58) (fz:=0) (c:=.new) rfl zp (λ_=>rfl);simp only[Zt,Zv,and_true];exact⟨FzO.keep rfl zp,FzO.keep rfl zp⟩;refine X9 u (Lk G u e g a Q ⟨N,0,[],0,0,0⟩ .old (.mk false [a.last]) (Nat.le_of_ble_eq_true rfl)) (gx:=z) λgx4=>?_;refine Zu ?_;refine Z ?_;rw[j];exact⟨rfl,gx4,zr,zr⟩
  subst h3;rw[if_neg zS]at j;refine Z1 ?_;refine Z2 rfl (λJ=>?_) (λJ=>?_)
  .have J:t=[40]:=zu J
   rw[if_pos J]at j;have H:=M 1 r.adv zd zd (Nat.lt_succ_self _) I;have v:=(Y 1 r.adv).ok I;generalize d 1 r.adv=x at H j v;obtain⟨b,a⟩:=x;simp only at H v
   have hai:a.i<1000000:=by have:=v.1;omega
   refine Xm (zi @Vz hw) ?_
   cases b with
   |false=>
    refine Xm @Vz ?_;refine X9 u (H) (gx:=q) λn=>?_;refine Zu ?_;refine Z ?_;rw[j];exact⟨rfl,n,zr,zr⟩
   |true=>
    rw[Tn]at j;refine Xm @Vz ?_;refine X9 u (H) (gx:=q) λn=>?_;refine Zu ?_;refine X9 u (I8 G U e R g a hai [41]) (gx:=n) λz=>?_;refine Zu ?_;generalize R5 e.l [41] a=y at j⊢;obtain⟨b,a2⟩:=y
    cases b with
    |true=>
     refine Zs ?_;refine Z ?_;rw[j];exact⟨rfl,z,zr,zr⟩
    |false=>
     refine Zs ?_;refine Z ?_;rw[j];exact⟨rfl,z,zr,zr⟩
  have J:¬ t=[40]:=zu J;rw[if_neg J]at j;refine Z1 ?_;refine Z2 rfl (λD=>?_) (λD=>?_)
  have D:t=wIf:=by
   have D:(t==[105,102])=true:=D;exact eq_of_beq D
  rw[if_pos D]at j;refine Z1 ?_;refine X9 u (E2 G U e R g r W d M Y) (gx:=q) λn=>?_;refine Zu ?_;refine Z ?_;rw[j];exact⟨rfl,n,zr,zr⟩
  have D:¬ t=wIf:=by
   have D:(t==[105,102])=false:=D;exact beq_eq_false_iff_ne.1 D
  refine Z0 ?_;exact T _ () (.inr ⟨A,k1,k2,rfl,J,D⟩) (Weak.st zp zp)
 rintro _ B
 have S:Pg e.l d r=if(Ch t 0).2/\k=3 then J8 r (Ch t 0).1 0 []else(false,r.err 80):=by
  rw[j]
  rcases B with A|⟨A,k1,k2,k3,k4,k5⟩
  have:=w A;subst A;rw[if_neg zd,if_neg zd,if_pos rfl,this,if_neg zS];rw[if_neg k1,if_neg k2,if_neg A,k3,if_neg zS,if_neg k4,if_neg k5]
 try clear j
 have j:=S
 try clear S w B
 refine Z1 ?_;refine Zn u ?_ (s:=(E0 G u t 0));generalize Ch t 0=o0 at j⊢;obtain⟨O,ok⟩:=o0;simp only at j;refine Xr @encOf.eq_1 ?_
 cases ok with
 |false=>
  rw[if_neg zS]at j;refine Z1 ?_;refine Ve rfl ?_;refine Zf @Vz ?_;rw[j];exact⟨rfl,q,zr,zr⟩
 |true=>
  by_cases k3:k=3
  have e3:(k==3)=true:=zu k3;rw[if_pos ⟨rfl,k3⟩]at j;refine Xm e3 ?_;refine Z2 rfl (λh7=>?_) (λh7=>?_);refine Z1 ?_;rw[<- Ux ⟨O,0,[],0,0,0⟩];refine X9 u (Kq G u e g r F L O 0 [] 0 0 0) (gx:=q) λn=>?_;refine Zu ?_;refine Z ?_;rw[j];exact⟨rfl,n,zr,zr⟩;cases h7;have e3:(k==3)=false:=zu k3;rw[if_neg (λh=>k3 h.2)]at j;refine Xm e3 ?_;refine Ve rfl ?_;refine Zf @Vz ?_;rw[j];exact⟨rfl,q,zr,zr⟩
theorem Zrs(l:List Tk)(b:Inner)(n:Int)(m:Nat)(r:RS):Mx l b n (m+1) r=match J0 l r.i with
  |none=>(true,r)
  |some op=>if lvl op<n then(true,r)else andThen (b (lvl op+1) r.adv) λa=>Mx l b n m (a.put ⟨op,0,[],r.last,a.last,-1⟩):=rfl
theorem Zu6{l:List Tk}{i:Nat}:((Y3 l i).kind=0\/(Ch (Y3 l i).text 2).2=false->J0 l i=none)/\((Y3 l i).kind≠0->(Ch (Y3 l i).text 2).2=true->J0 l i=some (Ch (Y3 l i).text 2).1):=by
 unfold J0 Ch
 constructor
 rintro(h|h);rw[if_pos h]
 split
 rfl
 .cases a:ofI (Y3 l i).text 2 with
  |none=>rfl
  |some op=>rw[a]at h;cases h
 .intro h h2
  rw[if_neg h]
  cases a:ofI (Y3 l i).text 2 with
  |none=>rw[a]at h2;cases h2
  |some op=>rfl
theorem ofP_lt(t:List UInt8)(p:Int):(Ch t p).1<23:=by
 unfold Ch
 split
 rename_i h;exact Zw6 h
 decide
theorem Znh(G:Nat->V)(hE:GExp G)(d:Sl Tk)(hT:TkOk d.l)(g:Nat):∀ (f:Nat) (n:Int) (r:RS),1<=n->n<=9->d.l.length<f+r.i->I2 d.l r ->
  RdS 1031 [.func (.func 219) [] []] G 219 [.int .i64 n] d g r (.bool (We d.l f n r).1) (We d.l f n r).2:=by
 have w:=hE.ok;have hTl:=hT.len;intro f
 induction f with
 |zero=>intro n r _ _ hf hr;have:=hr.1;omega
 |succ f ih=>
 intro n r hn1 hn9 hf hr gx;have hin:∀ i0,r.i<=i0->Z4w G d g (We d.l f) i0:=λi0 hi0 n' r' h1 B hi hr'=>ih n' r' h1 B zo hr';have L:=Se d.l f;have e:We d.l (f+1) n r=andThen (Pg d.l (We d.l f) r) (Mx d.l (We d.l f) n (d.l.length+1)):=rfl;generalize We d.l (f+1) n r=P at e⊢;refine Zo 1000 65 [.tmp 4] Tryz.func219 λX=>?_;have D:=Zoh G hE d hT g r hr _ (hin r.i (Nat.le_refl _)) L;have E:=Bw L r;generalize Pg d.l (We d.l f) r=y at e D E;obtain⟨b,q0⟩:=y;simp only at D E;refine Z1 ?_;refine Z6 ?_
 cases b with
 |false=>
  rw[T5]at e;refine Z1 ?_;refine X9 w (D) (gx:=gx) λO=>?_;refine Zu ?_;refine Z2 rfl (λh2=>?_) (λh2=>?_);refine Z ?_;rw[e];exact⟨rfl,O,zr,zr⟩;cases h2
 |true=>
 rw[Tn]at e;have hq0:=E.ok hr;refine Z1 ?_;refine X9 w (D) (gx:=gx) λO=>?_;refine Zu ?_;refine Z1 ?_;refine Zn w ?_ (s:=(Mh G w));refine Xr (zi @Z6b (zi @Da @Nat.le_refl)) ?_;intro g5;rw[Hg _ ?hl]
 case hl=>rfl
 refine AW.block ?_
 refine Vs (fun(x:Nat×Nat×RS)=>st [(0,.ptr 8 g 0),(1,.int .i64 n),(5,.ptr 1005 g5 0)] [(1005,.cells .new g5 0 tabC),(8,Aj 1031 [.func (.func 219) [] []] d g x.1 x.2.2),(1031,Ab x.1 x.2.2.nodes)])
  (λx=>P=Mx d.l (We d.l f) n x.2.1 x.2.2/\I2 d.l x.2.2/\r.i<=x.2.2.i/\d.l.length<x.2.1+x.2.2.i) (λx=>x.2.1) (O,d.l.length+1,q0) ⟨e,hq0,E.up,Nat.lt_add_right _ (Nat.lt_succ_self _)⟩
  (Weak.st zp zp) ?_
 try clear e
 rintro⟨gy,m,q⟩ ⟨e,F,T,hm⟩ L3 hL3
 replace e:P=Mx d.l (We d.l f) n m q:=e
 replace F:I2 d.l q:=F
 replace T:r.i<=q.i:=T
 replace hm:d.l.length<m+q.i:=hm
 obtain⟨m,rfl⟩:∃ m',m=m'+1:=⟨m-1,by have:=F.1;omega⟩
 have hqI:q.i<1000000:=by have:=F.1;omega
 have hqn:q.nodes.length<1000000:=by have:=F.1;have:=F.2;omega
 rw[Zrs]at e;have v:=Zu6 (l:=d.l) (i:=q.i);have j:=ofP_lt (Y3 d.l q.i).text 2;have R:=H8 hT q.i
 have I:∀ u,J0 d.l q.i=some u->1<=lvl u/\lvl u<=8:=λu h=>by have:=op_pos h;exact⟨this.2.2.1,this.2.2.2⟩
 have H:∀ u,J0 d.l q.i=some u->q.i<d.l.length:=λu h=>Zvx h;refine Z1 ?_;refine X9 w (Kp G hE d hT g q hqI) (gx:=gy) λgz=>?_;refine Zu ?_;refine Xr @Vr ?_;intro g6;generalize J0 d.l q.i=oa at e v I H;generalize Y3 d.l q.i=t at v j R⊢;obtain⟨k,t,p⟩:=t;simp only at v j R;refine Z1 ?_;refine Zn w ?_ (s:=(E0 G w t 2));generalize Ch t 2=o2 at v j⊢;obtain⟨u,ok⟩:=o2;simp only at v j;refine Xr @encOf.eq_1 ?_;have hlv:=Z64 u j;have U:(u:Int)<23:=zo;refine Xm (zi U (zi @Int.natCast_nonneg (zi hlv @Nat.zero_add))) ?_;refine Z6 ?_
 cases ok with
 |false=>
  rw[v.1 (.inr rfl)]at e;refine Z1 ?_;refine Z2 rfl (λB=>?_) (λB=>?_);refine Z ?_;rw[e];exact⟨rfl,gz,zr,zr⟩;cases B
 |true=>
 by_cases hk:k=0
 have e1:(k==0)=true:=zu hk;rw[v.1 (.inl hk)]at e;refine Xm e1 ?_;refine Z2 rfl (λB=>?_) (λB=>?_);refine Z ?_;rw[e];exact⟨rfl,gz,zr,zr⟩;cases B;have e1:(k==0)=false:=zu hk;have K:=v.2 hk rfl;rw[K]at e;simp only at e;obtain⟨hl1,hl8⟩:=I u K;have hil:=H u K;generalize lvl u=lv at e hl1 hl8⊢
 by_cases C:lv<n
 have e2:decide (lv<n)=true:=zu C;rw[if_pos C]at e;refine Xm (zi e1 e2) ?_;refine Z2 rfl (λB=>?_) (λB=>?_);refine Z ?_;rw[e];exact⟨rfl,gz,zr,zr⟩;cases B;have e2:decide (lv<n)=false:=zu C;rw[if_neg C]at e;refine Xm (zi e1 e2) ?_;refine Z0 ?_
 have hw:IntKind.i64.wrap ((q.i:Int)+1)=((q.i+1:Nat):Int):=by rw[Wy zo zo];omega
 have Q:IntKind.i64.wrap (lv+1)=lv+1:=Wy zo zo;have J:I2 d.l q.adv:=(Bal.adv hil).ok F;have hc:=ih (lv+1) q.adv zo zo (by show d.l.length<f+(q.i+1);omega) J;have A:=L (lv+1) q.adv;generalize We d.l f (lv+1) q.adv=z at e hc A;obtain⟨b,a⟩:=z;simp only at hc A;have ha:=A.ok J;have haup:q.i+1<=a.i:=A.up
 have W:a.nodes.length<1000000:=by have:=ha.1;have:=ha.2;omega
 refine Z1 ?_;refine X9 w (Na G w d g q hqn) (gx:=gz) λgz1=>?_;refine Zu ?_;refine Xm (zi @Vz hw) ?_;refine Z6 ?_
 cases b with
 |false=>
  rw[T5]at e;refine Xm (zi @Vz Q) ?_;refine X9 w (hc) (gx:=gz1) λN=>?_;refine Zu ?_;refine Z2 rfl (λY=>?_) (λY=>?_);refine Z ?_;rw[e];exact⟨rfl,N,zr,zr⟩;cases Y
 |true=>
  rw[Tn]at e;refine Xm (zi @Vz Q) ?_;refine X9 w (hc) (gx:=gz1) λN=>?_;refine Zu ?_;refine Z1 ?_;refine X9 w (Na G w d g a W) (gx:=N) λM=>?_;refine Zu ?_;intro g63;refine Wf (λo=>o==1063) [.ptr 8 g 0,Xp ⟨u,0,[],0,0,0⟩,.slice .new false 1 [.int .i64 q.last,.int .i64 a.last]] [(8,Aj 1031 [.func (.func 219) [] []] d g M a),(1031,Ab M a.nodes),(1005,.cells .new g5 0 tabC)] ⟨Zb,Zb,?_,trivial⟩ ?_ ?_;exact Xa (f:=V.int .i64) (l:=[q.last,a.last]) (m:=1) (g:=g63) (fz:=0) (c:=.new) rfl zp (λ_=>rfl);simp only[Zt,Zv,and_true];exact⟨FzO.keep rfl zp,FzO.keep rfl zp,FzO.keep rfl zp⟩;refine X9 w (Lk G w d g a W ⟨u,0,[],0,0,0⟩ .old (.mk false [q.last,a.last]) (Nat.le_of_ble_eq_true rfl)) (gx:=M) λgz4=>?_;refine Zu ?_
  have S:I2 d.l (a.put ⟨u,0,[],q.last,a.last,-1⟩):=⟨ha.1,by
   have h1:=A.cnt;have h2:=F.2
   show(a.nodes++[_]).length<=a.i
   rw[List.length_append,List.length_singleton];have h3:a.nodes.length+(q.i+1)+0<=q.nodes.length+a.i:=h1
   omega⟩
  refine hL3 _ ⟨(gz4,m,a.put ⟨u,0,[],q.last,a.last,-1⟩),Nat.lt_succ_self _,⟨e,S,?_,?_⟩,Weak.st zp (by refine Zs ?_;exact⟨rfl,rfl⟩)⟩
  show r.i<=a.i
  omega
  show d.l.length<m+a.i
  omega
end Go.Hs
end

section
namespace Go.Hs
def nthP(l:List XN)(i:Int):Option XN:=if i<0 then none else l[i.toNat]?
def At(l:List XN)(x:X)(b:Nat):Prop:=∃ pre post,l=pre++x.row b++post/\pre.length=b
theorem X.row_top:∀ (x:X) (k:Int),∃ body,x.row k=body++[x.top k]/\body.length+1=x.size
 |.leaf op num name,k=>⟨[],rfl,rfl⟩
 |.un op a,k=>⟨a.row k,rfl,by rw[X.row_len];rfl⟩
 |.bin op a b,k=>⟨a.row k++b.row (k+a.size),rfl,by rw[List.length_append,X.row_len,X.row_len];rfl⟩
 |.ite a b c,k=>⟨a.row k++b.row (k+a.size)++c.row (k+a.size+b.size),rfl,by rw[List.length_append,List.length_append,X.row_len,X.row_len,X.row_len];rfl⟩
theorem At.top{l:List XN}{x:X}{b:Nat}(h:At l x b):nthP l ((b:Int)+x.size-1)=some (x.top b):=by
 obtain⟨a,c,rfl,d⟩:=h;obtain⟨body,f,e⟩:=x.row_top b;unfold nthP;rw[if_neg (by omega)]
 have:((b:Int)+x.size-1).toNat=(a++body).length:=by rw[List.length_append];omega
 simp_all
theorem At.get{l:List XN}{x:X}{b:Nat}(h:At l x b):l[b+x.size-1]?=some (x.top b):=by
 have:=h.top;unfold nthP at this;have a:=x.size_pos;rw[if_neg (by omega)]at this;rw[<- this];congr 1;omega
theorem At.un{l:List XN}{op:Int}{a:X}{b:Nat}(h:At l (.un op a) b):At l a b:=by
 obtain⟨c,d,rfl,e⟩:=h;exact⟨c,_,by simp only[X.row,List.append_assoc];rfl,e⟩
theorem At.bin{l:List XN}{op:Int}{x y:X}{b:Nat}(h:At l (.bin op x y) b):At l x b/\At l y (b+x.size):=by
 obtain⟨c,a,rfl,d⟩:=h;refine⟨⟨c,y.row (b+x.size)++[X.top (.bin op x y) b]++a,by simp only[X.row,List.append_assoc];rfl,d⟩,⟨c++x.row b,[X.top (.bin op x y) b]++a,?_,by rw[List.length_append,X.row_len,d]⟩⟩;simp only[X.row,List.append_assoc];rfl
theorem At.ite{l:List XN}{x y z:X}{b:Nat}(h:At l (.ite x y z) b):At l x b/\At l y (b+x.size)/\At l z (b+x.size+y.size):=by
 obtain⟨c,a,rfl,d⟩:=h;refine⟨⟨c,y.row (b+x.size)++z.row (b+x.size+y.size)++[X.top (.ite x y z) b]++a,by simp only[X.row,List.append_assoc];rfl,d⟩,⟨c++x.row b,z.row (b+x.size+y.size)++[X.top (.ite x y z) b]++a,?_,by rw[List.length_append,X.row_len,d]⟩,⟨c++x.row b++y.row (b+x.size),[X.top (.ite x y z) b]++a,?_,by rw[List.length_append,List.length_append,X.row_len,X.row_len,d]⟩⟩
 all_goals(· simp only[X.row,List.append_assoc];rfl)
theorem Zk9(x:X):At (x.row 0) x 0:=⟨[],[],by simp,rfl⟩
end Go.Hs
end

section
namespace Go.Hs
open Go.Proofs
set_option maxRecDepth 10000
theorem Zgi(G:Nat->V)(q:Y6 G)(o n:Col)(a b:Sl Int)(ha:a.l.length<1000000000):
  Spec Tryz.prog G 244 [Za o 1 (V.int .i64) a,Za n 1 (V.int .i64) b] Zj (λv _=>v=.bool (a.l==b.l)):=by
 refine Zo 0 26 [.tmp 4] Tryz.func244 λX=>?_;refine Z1 ?_;refine Z1 ?_;refine Z2 rfl (λf=>?_) (λf=>?_);refine Z ?_;simp at f⊢;intro e;rw[e]at f;exact f rfl;refine Z0 ?_
 have p:a.l.length=b.l.length:=by simp at f;omega
 refine Z1 ?_;refine AW.block ?_
 refine Yc a.l.length (λk (_:Unit)=>st [(0,Za o 1 (V.int .i64) a),(1,Za n 1 (V.int .i64) b),(12,.int .i64 a.l.length),(13,.int .i64 k)] []) (λk _=>a.l.take k=b.l.take k) 0 () (Nat.zero_le _) zS
  (Weak.st (by simp -implicitDefEqProofs only[go_sem,seval];try simp) zp) ?_
 intro k _ r h s i;refine Z1 ?_;refine Z6 ?_;refine Z2 rfl (λj=>?_) (λj=>?_);refine Z0 ?_;have c:k<a.l.length:=zu j;have d:k<b.l.length:=zo;refine Z1 ?_
 refine Z6<|Zy ⟨λ_=>.top,λ_=>.pure⟩ zk q zk zk ?_
 simp -implicitDefEqProofs only[go_sem,seval,List.getElem?_eq_getElem c,List.getElem?_eq_getElem d];refine Z2 rfl (λg=>?_) (λg=>?_);refine Z ?_;simp at g;simp;intro e;simp[e]at g;refine Z0 ?_;have m:a.l[k]=b.l[k]:=zu g;refine Z1 ?_;refine i _ ⟨c,(),?_,Weak.st (by refine Zs ?_;simp;exact Wy zo zo) zp⟩;rw[List.take_succ_eq_append_getElem c,List.take_succ_eq_append_getElem d,h,m];refine Z0 ?_
 have c:k=a.l.length:=by simp at j;omega
 refine Z ?_;subst c;rw[List.take_length,p,List.take_length]at h;simp[h]
theorem Zgq(G:Nat->V)(u:GExp G)(n:XN)(x:n.name.length<100000):Spec Tryz.prog G 243 [Xp n] Zj (λv _=>v=.bool (Pk n)):=by
 have y:=u.ok;refine Zo 0 43 [.tmp 2] Tryz.func243 λX=>?_
 have i:Pk n=if n.op<1\/n.op>22\/n.num<0 then false else if n.op=2 then n.num==0&&P6 n.name==2 else n.name==[]&&(n.op==1||n.num==0):=rfl
 obtain⟨g,e,f,a,b,c⟩:=n;simp only at x i;simp only[Ux];refine Yz λK d=>AW.region zk ?_;refine Zs ?_;intro q;refine d _ ?_
 try clear d K
 refine Wq (fun(_:Unit)=>st [(1,.ptr 1 q 0)] [(1,.cells .new q 0 [.int .u8 g,.int .i64 e,.str f,.int .i64 a,.int .i64 b,.int .i64 c])]) (λ_=>¬ (g<1\/g>22\/e<0)/\g≠2) (λA r=>?_) ?_;refine AW.block ?_
 by_cases k:g<1\/g>22\/e<0
 .rw[if_pos k]at i
  have w:∀ K:AS->Prop,(K (st [(1,.ptr 1 q 0),(3,.bool true)] [(1,.cells .new q 0 [.int .u8 g,.int .i64 e,.str f,.int .i64 a,.int .i64 b,.int .i64 c])]))->True:=λ_ _=>trivial
  cases o:decide (g<1)<;>cases m:decide (g>22)<;>cases l:decide (e<0)
  simp only[decide_eq_false_iff_not]at o m l
  rcases k with h|h|h
  exact absurd h o;exact absurd h m;exact absurd h l
  all_goals
   (refine Yz λK d=>AW.region zk ?_;refine Xr (zi o (zi m l)) ?_;refine d _ ?_;clear d K)
   refine Z2 (b:=true) zp (λ_=>?_) (λh=>by cases h)
   (refine Yz λK d=>AW.region zk ?_;refine Zs ?_;refine d _ ?_;clear d K)
   (refine AW.ret ?_;refine Zs ?_;refine Vn ?_)
   rw[i]
 .have o:decide (g<1)=false:=by rw[decide_eq_false_iff_not];exact λh=>k (.inl h)
  have m:decide (g>22)=false:=by rw[decide_eq_false_iff_not];exact λh=>k (.inr (.inl h))
  have l:decide (e<0)=false:=by rw[decide_eq_false_iff_not];exact λh=>k (.inr (.inr h))
  rw[if_neg k]at i;refine Yz λK d=>AW.region zk ?_;refine Xr (zi o (zi m l)) ?_;refine d _ ?_
  try clear d K
  refine Ve rfl ?_
  try clear h4
  refine Yz λK d=>AW.region zk ?_;refine Zs ?_;refine d _ ?_
  try clear d K
  refine Z2 rfl (λj=>?_) (λj=>?_)
  .have j:g=2:=zu j
   rw[if_pos j]at i
   cases p:(e==0)with
   |false=>
    refine Yz λK d=>AW.region zk ?_;refine Xr p ?_;refine d _ ?_
    try clear d K
    refine Z ?_
    rw[i,p]<;>rfl
   |true=>
    refine Yz λK d=>AW.region zk ?_;refine Xr p ?_;refine Zc y ?_ (s:=(Ry G u f zo));refine d _ ?_
    try clear d K
    refine Z ?_;rw[i,p,Bool.true_and];generalize P6 f=z
    cases t:(z==2)with
    |true=>
     have:((z:Int)==2)=true:=by rw[beq_iff_eq]at t⊢;omega
     rw[this]
    |false=>
     have:((z:Int)==2)=false:=by rw[beq_eq_false_iff_ne]at t⊢;omega
     rw[this]
  have j:¬ g=2:=zu j;refine Z0 ?_;exact r _ () ⟨k,j⟩ (Weak.st zp zp)
 rintro _ ⟨k,j⟩;rw[if_neg k,if_neg j]at i
 cases o:(f==[])<;>cases m:(g==1)<;>cases l:(e==0)<;>((refine Yz λK d=>AW.region zk ?_;refine Xr (zi o (zi m l)) ?_;refine d _ ?_;clear d K);(refine AW.ret ?_;refine Zs ?_;refine Vn ?_);rw[i,o,m,l]<;>rfl)
def Tz(p:Int×Int):V:=.agg [.int .i64 p.1,.int .i64 p.2]
theorem M6(p:Int×Int):(Tz p).cells.length=2:=rfl
theorem Zot{l:List XN}{k:Nat}{n:XN}(h:l[k]?=some n)(i:Int)(a:List (Int×Int)):Px (l.drop k) i a=match L8 i n a with|some o=>Px (l.drop (k+1)) (i+1) o|none=>none:=by
 obtain⟨c,b⟩:=List.getElem?_eq_some_iff.1 h
 rw[List.drop_eq_getElem_cons c,b]<;>rfl
theorem Z1z{op:Int}(b:1<=op)(a:op<=22):tabC[op.toNat*3+2]?=some (.int .i64 (Yl op:Nat)):=by
 obtain⟨n,rfl⟩:∃ n:Nat,op=n:=⟨op.toNat,zo⟩;rw[Int.toNat_natCast,Z4h n zo 2 zd]
 have:∀ n:Nat,n<23->1<=n->(tabL.getD n ⟨[],0,0⟩).parts=(Yl n:Nat):=by decide +kernel
 rw[<- this n zo zo]<;>rfl
theorem Zey:∀ (l:List (Int×Int)) (i:Nat) (x:Int×Int),l[i]?=some x->((flat (l.map Tz)).drop (i*2)).take 2=[.int .i64 x.1,.int .i64 x.2]
 |[],i,x,h=>by simp at h
 |y::r,0,x,h=>by
  have:y=x:=zu h;subst this;rfl
 |y::r,i+1,x,h=>by
  have a:=Zey r i x (zu h);rw[<- a,List.map_cons];have:flat (Tz y::r.map Tz)=.int .i64 y.1::.int .i64 y.2::flat (r.map Tz):=rfl;rw[this,show(i+1)*2=i*2+1+1 by omega,List.drop_succ_cons,List.drop_succ_cons]
def plC(l:List (Int×Int)):List V:=(Vd l).map (V.int .i64)
theorem Zvaa:∀ (l:List (Int×Int)) (j:Nat) (x:Int×Int),l[j]?=some x->j<3->Hs.setAt (plC (l.take j)) j [.int .i64 x.1]=plC (l.take (j+1)):=by
 intro l j x h d
 match l,j,h,d with
 |a::r,0,h,_=>
  have:a=x:=zu h;subst this;rfl
 |a::b::r,1,h,_=>
  have:b=x:=zu h;subst this;rfl
 |a::b::c::r,2,h,_=>
  have:c=x:=zu h;subst this;rfl
theorem Zfd(l:List (Int×Int))(j:Nat)(x:Int×Int)(h:l[j]?=some x):Ug (l.take (j+1))=max (Ug (l.take j)) x.2:=by
 unfold Ug
 rw[List.take_add_one,h,List.foldl_append]<;>rfl
theorem Zwaa(l:List (Int×Int)):(plC l).length=3:=rfl
theorem Zur(op:Int):Yl op<=3:=by
 unfold Yl
 split
 omega
 split
 omega
 split<;>omega
theorem Zpt{l:List (Int×Int)}{k:Int}(f:0<=k)(h:∀ y∈l,(0:Int)<=y.2/\y.2<=k):0<=Ug l/\Ug l<=k:=by
 have:∀ (l:List (Int×Int)) (d:Int),0<=d->d<=k->(∀ y∈l,(0:Int)<=y.2/\y.2<=k)->0<=l.foldl (λd p=>max d p.2) d/\l.foldl (λd p=>max d p.2) d<=k:=by
  intro l
  induction l with
  |nil=>intro d c b _;exact⟨c,b⟩
  |cons y r ih=>
   intro d c b a;have:=a y zS;exact ih (max d y.2) zo zo λz e=>a z (by simp[e])
 exact this l 0 (Int.le_refl _) f h
theorem Zj1(l:List (Int×Int))(n:Nat):(flat (l.map Tz)).take (n*2)=flat ((l.take n).map Tz):=by
 induction l generalizing n with
 |nil=>simp[flat]
 |cons y r ih=>
  cases n with
  |zero=>simp[flat]
  |succ n=>
   have e:flat ((y::r).map Tz)=.int .i64 y.1::.int .i64 y.2::flat (r.map Tz):=rfl
   rw[e,List.take_succ_cons,List.map_cons,show(n+1)*2=n*2+1+1 by omega,List.take_succ_cons,List.take_succ_cons,ih]<;>rfl
theorem Gu(G:Nat->V)(hE:GExp G)(c:Col)(s:Sl XN)(hs:s.l.length<1000000)(hnm:∀ n∈s.l,n.name.length<100000):
  Spec Tryz.prog G 220 [.agg [Za c 6 Xp s]] Zj (λv _=>v=.int .i64 (Uf s.l)):=by
 have Y:=hE.ok;refine Zo 0 81 [.tmp 2] Tryz.func220 λX=>?_
 have O:Uf s.l=match Px s.l 0 []with|some [x]=>x.2|_=>0:=rfl
 have B:Px s.l 0 []=none->Uf s.l=0:=λh=>by rw[O,h]
 refine Z1 ?_;intro g1;refine Z1 ?_;refine Zn Y ?_ (s:=(Mh G Y));refine Xr (zi @Z6b (zi @Da @Nat.le_refl)) ?_;intro F;rw[Hg _ ?hl]
 case hl=>rfl
 refine Z1 ?_;refine Z1 ?_;refine AW.block ?_
 refine Yc s.l.length (λk (x:Nat×List (Int×Int))=>st [(3,.ptr 3 F 0),(4,grown 72 x.1 2 x.2),(14,Za c 6 Xp s),(15,.int .i64 s.l.length),(16,.int .i64 k)] [(3,.cells .new F 0 tabC),(72,Yb x.1 Tz x.2)])
  (λk x=>Px s.l 0 []=Px (s.l.drop k) k x.2/\x.2.length<=k/\∀ y∈x.2,(0:Int)<=y.2/\y.2<=k) 0 (0,[]) (Nat.zero_le _) ⟨zS,Nat.le_refl _,zS⟩
  (Weak.st zp zp) ?_
 rintro k ⟨z,d⟩ hk ⟨C,hol,N⟩ L2 hL2
 replace C:Px s.l 0 []=Px (s.l.drop k) k d:=C
 replace hol:d.length<=k:=hol
 replace N:∀ y∈d,(0:Int)<=y.2/\y.2<=k:=N
 refine Z1 ?_;refine Z6 ?_;refine Z2 rfl (λh4=>?_) (λh4=>?_)
 .have hk1:k<s.l.length:=zu h4
  have hg:=List.getElem?_eq_getElem hk1;have hnn:=hnm _ (List.getElem_mem hk1);generalize s.l[k]=n at hg hnn;rw[Zot hg]at C;refine Xm (zi hg @Ux) ?_;intro L;refine Z1 ?_;rw[<- Ux];refine Zcf @Mp Y ?_ (s:=(Zgq G hE n hnn))
  have u:L8 k n d=if Pk n=false then none else if d.length<Yl n.op then none
   else if Vd (d.drop (d.length-Yl n.op))≠[n.a,n.b,n.c]then none
   else some (d.take (d.length-Yl n.op)++[((k:Int),Ug (d.drop (d.length-Yl n.op))+1)]):=rfl
  cases hw:Pk n with
  |false=>
   rw[if_pos hw]at u;rw[u]at C;refine Z2 rfl (λR=>?_) (λR=>?_);refine Z ?_;rw[B C];cases R
  |true=>
  rw[if_neg (by rw[hw];simp)]at u;refine Z0 ?_;have hrg:=Kr hw;have hpt:=Z1z hrg.1 hrg.2;have hp3:Yl n.op<=3:=Zur _;generalize hpd:Yl n.op=p at u hpt hp3;have hop0:(0:Int)<=n.op:=zo;have S:n.op<23:=zo;have hsub:IntKind.i64.wrap ((d.length:Int)-(p:Int))=(d.length:Int)-p:=Wy zo zo;refine Xm (zi hop0 (zi S (zi hpt (zi hsub @Nat.zero_add)))) ?_;refine Z6 ?_
  by_cases hlt:d.length<p
  have e1:decide ((d.length:Int)-p<0)=true:=zT;rw[if_pos hlt]at u;rw[u]at C;refine Xm e1 ?_;refine Z2 rfl (λh9=>?_) (λh9=>?_);refine Z ?_;rw[B C];cases h9;have e1:decide ((d.length:Int)-p<0)=false:=zF;rw[if_neg hlt]at u;refine Xm e1 ?_;refine Z0 ?_;obtain⟨q,hkk⟩:∃ q:Nat,q=d.length-p:=⟨_,rfl⟩;rw[<- hkk]at u;have hkd:(d.length:Int)-p=(q:Int):=zo;rw[hkd];refine Z1 ?_;intro w;have T:q+p=d.length:=zo
  refine Wq (fun(_:Unit)=>st [(3,.ptr 3 F 0),(4,grown 72 z 2 d),(5,.int .i64 k),(6,.ptr 6 L 0),(7,.int .i64 q),(8,.msl 34 w 0 3 1),(9,.int .i64 (Ug (d.drop q))),(14,Za c 6 Xp s),(15,.int .i64 s.l.length),(16,.int .i64 k)]
    [(3,.cells .new F 0 tabC),(72,Yb z Tz d),(6,.cells .new L 0 [.int .u8 n.op,.int .i64 n.num,.str n.name,.int .i64 n.a,.int .i64 n.b,.int .i64 n.c]),(34,.cells .new w 0 (plC (d.drop q)))])
   (λ_=>True) (λK10 E=>?_) ?_
  by_cases hp0:p=0
  have hdn:d.drop q=[]:=List.drop_eq_nil_of_le zo;rw[hdn]at E;subst hp0;have A:q<=d.length:=zo;have hnlt:¬ q<d.length:=zo
  by_cases t:d=[]
  subst t;have I:q=0:=zu T;subst I;refine Ua zk ?_;simp -implicitDefEqProofs only[go_sem,seval,Vm,Wd];refine AW.block ?_
  refine Yc 0 (λj (_:Unit)=>st [(3,.ptr 3 F 0),(5,.int .i64 k),(4,.nils),(6,.ptr 6 L 0),(7,.int .i64 (0:Nat)),(8,.msl 34 w 0 3 1),(9,.int .i64 0),(14,Za c 6 Xp s),(15,.int .i64 s.l.length),(16,.int .i64 k),(38,.int .i64 0),(39,.int .i64 j)]
    [(3,.cells .new F 0 tabC),(6,.cells .new L 0 [.int .u8 n.op,.int .i64 n.num,.str n.name,.int .i64 n.a,.int .i64 n.b,.int .i64 n.c]),(34,.cells .new w 0 (plC []))])
   (λj _=>True) 0 () (Nat.zero_le _) trivial (Weak.st zp zp) ?_
  intro j _ hj _ L11 K;obtain rfl:j=0:=zo;refine Z1 ?_;refine Z0 ?_;refine Z0 ?_;exact E _ () trivial (Weak.st (T9 @Vm) (T9 @Wd))
  have I:¬ q=0:=by
   intro h;have:d.length=0:=zo;exact t (List.length_eq_zero_iff.1 this)
  refine Ua zk ?_;simp -implicitDefEqProofs only[go_sem,seval,X8 72 z 2 t,A,Nat.le_refl,I,hnlt];refine AW.block ?_
  refine Yc 0 (λj (_:Unit)=>st [(3,.ptr 3 F 0),(4,grown 72 z 2 d),(5,.int .i64 k),(6,.ptr 6 L 0),(7,.int .i64 q),(8,.msl 34 w 0 3 1),(9,.int .i64 0),(14,Za c 6 Xp s),(15,.int .i64 s.l.length),(16,.int .i64 k),(38,.int .i64 0),(39,.int .i64 j)]
    [(3,.cells .new F 0 tabC),(72,Yb z Tz d),(6,.cells .new L 0 [.int .u8 n.op,.int .i64 n.num,.str n.name,.int .i64 n.a,.int .i64 n.b,.int .i64 n.c]),(34,.cells .new w 0 (plC []))])
   (λj _=>True) 0 () (Nat.zero_le _) trivial (Weak.st (by refine Zs ?_;rw[X8 72 z 2 t];try exact⟨rfl,rfl⟩) zp) ?_
  intro j _ hj _ L11 K;obtain rfl:j=0:=zo;refine Z1 ?_;refine Z0 ?_;refine Z0 ?_;exact E _ () trivial (Weak.st zp zp)
  have t:d≠[]:=by intro e;rw[e]at T;simp at T;omega
  have hsl:(if q=0 then V.msl 72 z 0 d.length 2 else if q<d.length then V.msl 72 z (q*2) (d.length-q) 2 else V.slice .any false 2 [])=.msl 72 z (q*2) p 2:=by
   by_cases h0:q=0
   rw[if_pos h0];congr 1<;>omega
   rw[if_neg h0,if_pos zo];congr 1;omega
  have A:q<=d.length:=zo;refine Ua zk ?_;simp -implicitDefEqProofs only[go_sem,seval,X8 72 z 2 t,A,Nat.le_refl,hsl];refine AW.block ?_
  refine Yc p (λj (_:Unit)=>st [(3,.ptr 3 F 0),(4,grown 72 z 2 d),(5,.int .i64 k),(6,.ptr 6 L 0),(7,.int .i64 q),(8,.msl 34 w 0 3 1),(9,.int .i64 (Ug ((d.drop q).take j))),(14,Za c 6 Xp s),(15,.int .i64 s.l.length),(16,.int .i64 k),(37,.msl 72 z (q*2) p 2),(38,.int .i64 p),(39,.int .i64 j)]
    [(3,.cells .new F 0 tabC),(72,Yb z Tz d),(6,.cells .new L 0 [.int .u8 n.op,.int .i64 n.num,.str n.name,.int .i64 n.a,.int .i64 n.b,.int .i64 n.c]),(34,.cells .new w 0 (plC ((d.drop q).take j)))])
   (λj _=>True) 0 () (Nat.zero_le _) trivial
   (Weak.st (by refine Zs ?_;rw[X8 72 z 2 t];exact⟨rfl,rfl⟩) zp) ?_
  intro j _ hj _ L11 K;refine Z1 ?_;refine Z6 ?_;refine Z2 rfl (λW=>?_) (λW=>?_);have U:j<p:=zL W;refine Z0 ?_;refine Z6 ?_;refine AW.block ?_;obtain⟨x,hx⟩:∃ x,d[q+j]?=some x:=⟨_,List.getElem?_eq_getElem zo⟩
  have hxd:(d.drop q)[j]?=some x:=by rw[List.getElem?_drop];exact hx
  have hfp:=Zey d (q+j) x hx;rw[show(q+j)*2=q*2+j*2 by omega]at hfp
  have hfl:q*2+j*2+2<=(flat (d.map Tz)).length:=by rw[Xu (m:=2) M6];omega
  have hps:=Zvaa (d.drop q) j x hxd zo;have hds:=Zfd (d.drop q) j x hxd;have hpl:=Zwaa ((d.drop q).take j);generalize plC ((d.drop q).take j)=pc at hps hpl⊢;generalize Ug ((d.drop q).take j)=D at hds⊢;have hj3:(j:Int)<3:=zo;refine Ua zk ?_;simp -implicitDefEqProofs only[go_sem,seval,W7 z Tz t,hfp,hfl,U,Int.ofNat_lt];intro g11
  refine AW.weak (Zl (λo=>o==11) (l:=[(3,.ptr 3 F 0),(4,grown 72 z 2 d),(5,.int .i64 k),(6,.ptr 6 L 0),(7,.int .i64 q),(8,.msl 34 w 0 3 1),(9,.int .i64 D),(10,.int .i64 j),(11,.view .new (.agg [.int .i64 x.1,.int .i64 x.2])),(14,Za c 6 Xp s),(15,.int .i64 s.l.length),(16,.int .i64 k),(37,.msl 72 z (q*2) p 2),(38,.int .i64 p),(39,.int .i64 j)])
   (m:=[(3,.cells .new F 0 tabC),(72,Yb z Tz d),(6,.cells .new L 0 [.int .u8 n.op,.int .i64 n.num,.str n.name,.int .i64 n.a,.int .i64 n.b,.int .i64 n.c]),(34,.cells .new w 0 pc)]) ?_ ?_) ?_
  refine Zs ?_;refine⟨Zb,Zb,Zb,Zb,Zb,Zb,Zb,Zb,?_,Zb,Zb,Zb,Zb,Zb,Zb⟩;exact Fz.ptr (v:=.agg [.int .i64 x.1,.int .i64 x.2]) (c:=.new) (fz:=0) rfl zp;simp only[Zt,Zv,and_true];exact⟨FzO.keep rfl zp,FzO.keep rfl (by first|rfl|(rw[W7 z Tz t]<;>rfl)|(simp -implicitDefEqProofs only[go_sem,seval];try rfl)),FzO.keep rfl zp,FzO.keep rfl zp⟩;refine Zy ⟨λ_=>.top,λi=>if i=3 then .lend else if i=6 then .lend else .pure⟩ zk Y zk zk ?_;have hjl:j+1<=pc.length:=zo;have hset:pc.set j (.int .i64 x.1)=plC ((d.drop q).take (j+1)):=hps
  have hmx:(if x.2>D then x.2 else D)=max D x.2:=by
   rw[Int.max_def];split<;>split<;>omega
  simp -implicitDefEqProofs only[go_sem,seval,hj3,Nat.mul_one,Nat.zero_le,hjl,hset,hmx,<- hds];refine Z1 ?_;refine K _ ⟨U,(),trivial,Weak.st zw zp⟩
  have U:j=p:=by have:=zN W;omega
  have htk:(d.drop q).take j=d.drop q:=List.take_of_length_le (by rw[List.length_drop];omega);rw[htk];refine Z0 ?_;exact E _ () trivial (Weak.st zp zp);intro _ _;refine Z6 ?_;have hpl:Vd (d.drop q)=[(Vd (d.drop q)).getD 0 0,(Vd (d.drop q)).getD 1 0,(Vd (d.drop q)).getD 2 0]:=rfl;refine Z1 ?_;intro g61;refine CallA.bor Y [Za .old 1 (V.int .i64) (.mk false (Vd (d.drop q))),Za .old 1 (V.int .i64) (.mk false [n.a,n.b,n.c])] zk ⟨?_,?_,trivial⟩ ?_;exact Rd.msl (off:=0) (n:=3) (l:=Vd (d.drop q)) (f:=V.int .i64) (f':=V.int .i64) (g:=w) (fz:=0) (c:=.new) (by refine Zs ?_;exact congrArg (AObj.cells Col.new w 0) (C7 _ _).symm) (λ_=>rfl) (λx y M=>by simp[V.cells]at M;subst M;exact .int _ _) (λ_=>rfl) (by simp[Vd]);exact Rd.msl (off:=0) (n:=3) (l:=[n.a,n.b,n.c]) (f:=V.int .i64) (f':=V.int .i64) (g:=g61) (fz:=0) (c:=.new) zp (λ_=>rfl) (λx y M=>by simp[V.cells]at M;subst M;exact .int _ _) (λ_=>rfl) zS;refine(Zgi G Y _ _ (.mk false (Vd (d.drop q))) (.mk false [n.a,n.b,n.c]) (by simp[Vd,Sl.l])).mono ?_;rintro _ _ rfl;refine⟨.bool _,?_⟩;refine Zs ?_
  cases heq:(Vd (d.drop q)==[n.a,n.b,n.c])with
  |false=>
   have J:Vd (d.drop q)≠[n.a,n.b,n.c]:=zu heq;rw[if_pos J]at u;rw[u]at C;refine Z2 rfl (λh12=>?_) (λh12=>?_);refine Z ?_;rw[B C];cases h12
  |true=>
  have J:¬ Vd (d.drop q)≠[n.a,n.b,n.c]:=zu heq;rw[if_neg J]at u;rw[u]at C;refine Z0 ?_;have hdb:=Zpt (l:=d.drop q) (k:=k) zo λy M=>N y (List.mem_of_mem_drop M);generalize Ug (d.drop q)=D at C hdb⊢;have hwd:IntKind.i64.wrap (D+1)=D+1:=Wy zo zo;have P:d.take q++[((k:Int),D+1)]≠[]:=zS
  have H:(d.take q++[((k:Int),D+1)]).length=q+1:=by rw[List.length_append,List.length_take];simp;omega
  have Q:∀ y∈d.take q++[((k:Int),D+1)],(0:Int)<=y.2/\y.2<=(k+1:Nat):=by
   intro y M
   rcases List.mem_append.1 M with h|h
   have:=N y (List.mem_of_mem_take h);omega
   rw[List.mem_singleton.1 h];show 0<=D+1/\D+1<=_;omega
  by_cases t:d=[]
  subst t;have I:q=0:=zu hkk;subst I;refine AW.region zk ?_;simp -implicitDefEqProofs only[go_sem,seval,Vm,Wd,hwd];intro g71;refine Ys (f:=Tz) (l:=([]:List (Int×Int))) (l2:=[((k:Int),D+1)]) (g:=z) M6 rfl rfl rfl rfl (Z4 zo zS) λg2=>?_;refine Zs ?_;refine Z1 ?_;refine hL2 _ ⟨hk1,(g2,[((k:Int),D+1)]),⟨C,?_,Q⟩,Weak.st zw zp⟩
  show 1<=k+1
  omega;have A:q<=d.length:=zo;refine AW.region zk ?_;simp -implicitDefEqProofs only[go_sem,seval,X8 72 z 2 t,Nat.zero_le,A,hwd,W7 z Tz t];intro g71;refine⟨Z4 zo zo,by rw[Xu (m:=2) M6];omega,λg2=>?_⟩;refine Z1 ?_;refine hL2 _ ⟨hk1,(g2,d.take q++[((k:Int),D+1)]),⟨C,?_,Q⟩,Weak.st (by refine Zs ?_;exact⟨by rw[X8 _ _ _ P,H],congrArg _ (Wy zo zo)⟩) (by refine Zs ?_;rw[W7 _ _ P,List.map_append,U6,<- Zj1]<;>rfl)⟩
  show(d.take q++[_]).length<=k+1
  rw[H];omega
 .have hk1:k=s.l.length:=by simp at h4;omega
  refine Z0 ?_;rw[hk1,List.drop_length,Px]at C;rw[C]at O;refine Z6 ?_
  match d,O with
  |[],O=>
   refine Xm @Vm ?_;refine Z2 rfl (λR=>?_) (λR=>?_);refine Z ?_;rw[O];cases R
  |[x],O=>
   have t:[x]≠([]:List (Int×Int)):=zS;refine Z1 ?_;refine Z0 ?_;have hfx:flat ([x].map Tz)=[.int .i64 x.1,.int .i64 x.2]:=rfl;refine Ua zk ?_;simp -implicitDefEqProofs only[go_sem,seval,X8 72 z 2 t,W7 z Tz t,hfx];refine Z ?_;rw[O]
  |x::y::r,O=>
   have e1:(((x::y::r).length:Int) != 1)=true:=zO;refine Xm e1 ?_;refine Z2 rfl (λR=>?_) (λR=>?_);refine Z ?_;rw[O];cases R
def S7(l:List XN):Int:=if Uf l=0 then 2 else if Uf l>64 then 3 else 0
theorem Mi(G:Nat->V)(f:GExp G)(c:Col)(s:Sl XN)(h:s.l.length<1000000)(e:∀ n∈s.l,n.name.length<100000):
  Spec Tryz.prog G 221 [.agg [Za c 6 Xp s]] Zj (λv _=>v=.int .i64 (S7 s.l)):=by
 have i:=f.ok;refine Zo 0 12 [.tmp 2] Tryz.func221 λX=>?_
 have a:S7 s.l=if Uf s.l=0 then 2 else if Uf s.l>64 then 3 else 0:=rfl
 generalize S7 s.l=g at a⊢;refine Z1 ?_;intro j;refine Z1 ?_;refine Zcf @Xk i ?_ (s:=(Gu G f c.ent s h e));refine Z1 ?_;refine Z2 rfl (λd=>?_) (λd=>?_);have d:Uf s.l=0:=zu d;rw[if_pos d]at a;refine Z ?_;rw[a];have d:¬ Uf s.l=0:=zu d;rw[if_neg d]at a;refine Z1 ?_;refine Z2 rfl (λb=>?_) (λb=>?_);have b:Uf s.l>64:=zu b;rw[if_pos b]at a;refine Z ?_;rw[a];have b:¬ Uf s.l>64:=zu b;rw[if_neg b]at a;refine Z ?_;rw[a]
end Go.Hs
end

section
namespace Go.Hs
def NmQ(Q:List UInt8->Prop)(r:RS):Prop:=∀ n∈r.nodes,Q n.name
def NmI(Q:List UInt8->Prop)(inner:Inner):Prop:=∀ n r,NmQ Q r->NmQ Q (inner n r).2
theorem NmQ.put{Q:List UInt8->Prop}{r:RS}{n:XN}(h:NmQ Q r)(c:Q n.name):NmQ Q (r.put n):=by
 intro m b
 rcases List.mem_append.1 b with a|a
 exact h m a
 grind
theorem Vi{Q:List UInt8->Prop}{x:Bool×RS}{k:RS->Bool×RS}(h:NmQ Q x.2)(a:∀ r,NmQ Q r->NmQ Q (k r).2):NmQ Q (andThen x k).2:=by
 obtain⟨b,r⟩:=x;cases b;exact h;exact a r h
theorem Io{Q:List UInt8->Prop}(l:List Tk)(w:List UInt8){r:RS}(h:NmQ Q r):NmQ Q (R5 l w r).2:=by
 unfold R5;split<;>exact h
theorem Z8r{Q:List UInt8->Prop}(a:Q [])(t:List UInt8){r:RS}(h:NmQ Q r):NmQ Q (Qn r t).2:=by
 unfold Qn;split;exact h;exact NmQ.put (n:=⟨1,_,[],-1,-1,-1⟩) h a
theorem Zld{Q:List UInt8->Prop}{l:List Tk}{d:Inner}(n:Q [])(hi:NmI Q d){r:RS}(h:NmQ Q r):NmQ Q (Tm l d r).2:=by
 refine Vi (Io _ _ h) λs m=>Vi (hi _ _ m) λa k=>Vi (Io _ _ k) λq j=>Vi (hi _ _ j) λb i=>Vi (Io _ _ i) λp g=>Vi (hi _ _ g) λc f=>Vi (Io _ _ f) λo e=>?_;exact NmQ.put e n
theorem Zn2{Q:List UInt8->Prop}{l:List Tk}{b:Inner}(c:Q [])(e:∀ i,(Y3 l i).kind=2->Q (Y3 l i).text)(hi:NmI Q b){r:RS}(h:NmQ Q r):NmQ Q (Pg l b r).2:=by
 unfold Pg
 split
 exact Z8r c _ h
 split
 rename_i f;exact NmQ.put (n:=⟨2,0,(Y3 l r.i).text,-1,-1,-1⟩) h (e _ f)
 split
 exact h
 split
 exact Vi (hi _ _ h) λa d=>NmQ.put d c
 split
 exact Vi (hi _ _ h) λa d=>Io _ _ d
 split
 exact Zld c hi h
 split
 exact NmQ.put (n:=⟨_,0,[],-1,-1,-1⟩) h c;exact h
theorem Zrj{Q:List UInt8->Prop}{l:List Tk}{b:Inner}(c:Q [])(hi:NmI Q b)(n:Int):∀ (m:Nat) (r:RS),NmQ Q r->NmQ Q (Mx l b n m r).2
 |0,r,h=>h
 |m+1,r,h=>by
  rw[Mx]
  split
  exact h
  split
  exact h;exact Vi (hi _ r.adv h) λa d=>Zrj c hi n m (a.put _) (NmQ.put d c)
theorem Gk{Q:List UInt8->Prop}(l:List Tk)(b:Q [])(c:∀ i,(Y3 l i).kind=2->Q (Y3 l i).text):∀ f,NmI Q (We l f)
 |0=>λ_ _ h=>h
 |f+1=>λn r h=>by
  exact Vi (Zn2 b c (Gk l b c f) h) λa d=>Zrj b (Gk l b c f) n _ a d
def X5(l:List Tk):List XN×Int×Int:=if(We l (l.length+1) 1 ⟨0,[],0⟩).1=false then([],(We l (l.length+1) 1 ⟨0,[],0⟩).2.i,(We l (l.length+1) 1 ⟨0,[],0⟩).2.e)
 else if Uf (We l (l.length+1) 1 ⟨0,[],0⟩).2.nodes>64 then([],0,3)else((We l (l.length+1) 1 ⟨0,[],0⟩).2.nodes,(We l (l.length+1) 1 ⟨0,[],0⟩).2.i,0)
def Sr(s:List UInt8):List XN×Int×Int:=
 if(Y4 s).2.2≠0 then([],(Y4 s).2.1,(Y4 s).2.2)
 else if(X5 (Y4 s).1).2.2=3 then([],0,3)
 else if(X5 (Y4 s).1).2.2=0/\(X5 (Y4 s).1).2.1=((Y4 s).1.length:Nat)then((X5 (Y4 s).1).1,0,0)
 else([],if(X5 (Y4 s).1).2.1=((Y4 s).1.length:Nat)then(s.length:Int)else((Y4 s).1.getD (X5 (Y4 s).1).2.1.toNat ⟨0,[],0⟩).pos,if(X5 (Y4 s).1).2.2=0 then 80 else(X5 (Y4 s).1).2.2)
theorem Ov{l:List Tk}:0<=(X5 l).2.1/\(X5 l).2.1<=(l.length:Nat):=by
 have a:=((Se l (l.length+1) 1 ⟨0,[],0⟩).ok ⟨Nat.zero_le _,Nat.le_refl _⟩).1;unfold X5
 grind
end Go.Hs
end

section
namespace Go.Hs
open Go.Proofs
set_option maxRecDepth 10000
theorem Zj4{b:Nat}{a:List V}{G:Nat->V}(D:Y6 G){f:FuncId}{args args':List V}{j:Sl Tk}{g:Nat}{r r':RS}{v:V}(h:RdS b a G f args' j g r v r'){H:Heap}{K:V->Heap->Prop}
  (n:Z7 Tryz.prog f=true) (m:∀ F:Col->Col,a.map (V.recol F)=a) (d:args.map (V.recol Col.ent)=args') (A:v.recol Col.bk=v) (q:r.nodes=[])
  (cs:List V) (u:H 8=.cells .new g 0 cs) (o:Yv Col.ent cs=(Za .any 3 Wu j::.int .i64 r.i::.nils::.int .i64 r.e::a)) (s:H b=.dead)
  (B:∀ gx',K v (Z5 H [(8,.cells .new g 0 (Za .any 3 Wu j::.int .i64 r'.i::grown b gx' 6 r'.nodes::.int .i64 r'.e::a)),(b,Yb gx' Xp r'.nodes)])):
  CallA Tryz.prog G f (.ptr 8 g 0::args) H K:=by
 refine Zbq D [(8,Aj b a j g 0 r),(b,Ab 0 r.nodes)] n ?_ ?_ ?_;intro p k;simp only[List.mem_cons,List.not_mem_nil,or_false]at k
 rcases k with rfl|rfl
 simp only[u,AObj.toAny,o,Vz,q];rfl;simp only[s,AObj.toAny,q];rfl;intro p k c M N E l;simp only[List.mem_cons,List.not_mem_nil,or_false]at k
 rcases k with rfl|rfl
 simp only[u,AObj.cells.injEq]at l;exact l.1.symm;simp only[s]at l;cases l
 .have ha:(V.ptr 8 g 0::args).map (V.recol Col.ent)=.ptr 8 g 0::args':=by rw[List.map_cons,Ln,d]
  rw[ha];refine(h 0).mono ?_;rintro _ O ⟨rfl,gx',z,w⟩
  have J:(Aj b a j g gx' r').backNew=.cells .new g 0 (Za .any 3 Wu j::.int .i64 r'.i::grown b gx' 6 r'.nodes::.int .i64 r'.e::a):=by
   simp only[Vz,AObj.backNew,Yq,List.map_cons,Vl,Yj,So,m];rfl
  have I:(Ab gx' r'.nodes).backNew=Yb gx' Xp r'.nodes:=by
   unfold Ab
   cases L:r'.nodes with
   |nil=>rfl
   |cons x t=>
    rw[Ge _ _ _ zS,W7 _ _ zS];simp only[AObj.backNew,Yq];rw[<- Rj,List.map_map];have C:(x::t).map (V.recol Col.bk∘Xp)=(x::t).map Xp:=List.map_congr_left λy _=>Mp _ y
    first|done|rw[C]
  simp only[List.map_cons,List.map_nil,z,w,J,I,A];exact B gx'
def encXs(c:Col)(l:List XN):V:=Za c 6 Xp (Zd l)
def encFr(c:Col)(p:List XN×Int×Int):V:=.tuple [.agg [encXs c p.1],.int .i64 p.2.1,.int .i64 p.2.2]
theorem Ld{l:List Tk}(b:TkOk l):∀ n∈(We l (l.length+1) 1 ⟨0,[],0⟩).2.nodes,n.name.length<100000:=
 Gk (Q:=λs=>s.length<100000) l (Nat.zero_lt_succ _) (λi _=>H8 b i) _ _ _ (λn a=>by cases a)
theorem E1(G:Nat->V)(x:GExp G)(c:Col)(a:Sl Tk)(w:TkOk a.l):Spec Tryz.prog G 181 [Za c 3 Wu a] Zj (λv _=>v=encFr .new (X5 a.l)):=by
 have t:=x.ok;have B:=w.len;refine Zo 0 44 [.cell 2 94,.tmp 3,.tmp 4] Tryz.func181 λX=>?_
 have h:X5 a.l=if(We a.l (a.l.length+1) 1 ⟨0,[],0⟩).1=false then(([]:List XN),((We a.l (a.l.length+1) 1 ⟨0,[],0⟩).2.i:Int),(We a.l (a.l.length+1) 1 ⟨0,[],0⟩).2.e)
  else if Uf (We a.l (a.l.length+1) 1 ⟨0,[],0⟩).2.nodes>64 then([],0,3)else((We a.l (a.l.length+1) 1 ⟨0,[],0⟩).2.nodes,((We a.l (a.l.length+1) 1 ⟨0,[],0⟩).2.i:Int),(0:Int)):=rfl
 have p:I2 a.l ⟨0,[],0⟩:=⟨Nat.zero_le _,Nat.le_refl _⟩;have n:=λg=>Znh G x a w g (a.l.length+1) 1 ⟨0,[],0⟩ zd zd (Nat.lt_succ_self _) p;have f:=Ld w;have k:=(Se a.l (a.l.length+1) 1 ⟨0,[],0⟩);generalize X5 a.l=A at h⊢;generalize We a.l (a.l.length+1) 1 ⟨0,[],0⟩=y at h n k f;obtain⟨b,r⟩:=y;simp only at h n k f;refine Z1 ?_;intro j;refine Z1 ?_;intro q;refine Z6 ?_;refine AW.block ?_;refine AW.weak (Zl (λ_=>false) (l:=[(5,.ptr 8 q 0),(2,.ptr 2 j 0)]) (m:=[(2,.cells .new j 0 [.nils]),(8,.cells .new q 0 [Za .any 3 Wu a,.int .i64 0,.nils,.int .i64 0,.func (.func 219) [] []])]) ?_ ?_) ?_;refine Zs ?_;exact⟨Zb,Zb⟩;simp only[Zt,Zv,and_true];exact⟨FzO.keep rfl zp,FzO.of (c:=.new) (fz:=0) (cs:=[Za c 3 Wu a,.int .i64 0,.nils,.int .i64 0,.func (.func 219) [] []]) rfl zp ⟨Fz.any (Vl _ _ _),Zb,Zb,Zb,Zb,trivial⟩⟩;refine Z1 ?_;refine Zj4 t (n q) zk (λF=>rfl) rfl rfl rfl _ zp (by simp only[Yq,List.map_cons,List.map_nil,Vl];rfl) zp λz=>?_;refine Zu ?_
 cases b with
 |false=>
  refine T8 rfl ?_;refine AW.weak (Zl (λo=>o==8) (l:=[(5,.view .new (.agg [Za .any 3 Wu a,.int .i64 r.i,grown 1031 z 6 r.nodes,.int .i64 r.e,.func (.func 219) [] []])),(2,.ptr 2 j 0)]) (m:=[(2,.cells .new j 0 [.nils])]) ?_ ?_) ?_;refine Zs ?_;exact⟨Fz.ptr (v:=.agg [Za .any 3 Wu a,.int .i64 r.i,grown 1031 z 6 r.nodes,.int .i64 r.e,.func (.func 219) [] []]) (c:=.new) (fz:=0) rfl zp,Zb⟩;simp only[Zt,Zv,and_true];exact FzO.keep rfl zp;refine Z6 ?_;refine Zy ⟨λ_=>.top,λi=>if i=4 then .lend else if i=8 then .lend else .pure⟩ zk t zk zk ?_;refine Zs ?_;refine Z ?_
  rw[h]<;>rfl
 |true=>
 refine Ve rfl ?_;refine AW.weak (Zl (λo=>o==1031) (l:=[(5,.ptr 8 q 0),(2,.ptr 2 j 0)]) (m:=[(2,.cells .new j 0 [.nils]),(8,.cells .new q 0 [Za .any 3 Wu a,.int .i64 r.i,encXs .new r.nodes,.int .i64 r.e,.func (.func 219) [] []])]) ?_ ?_) ?_;refine Zs ?_;exact⟨Zb,Zb⟩;simp only[Zt,Zv,and_true];exact⟨FzO.keep rfl zp,FzO.of (c:=.new) (fz:=0) (cs:=[Za .any 3 Wu a,.int .i64 r.i,grown 1031 z 6 r.nodes,.int .i64 r.e,.func (.func 219) [] []]) rfl zp ⟨Zb,Zb,Y5 rfl zp M4,Zb,Zb,trivial⟩⟩
 have u:r.nodes.length<1000000:=by have:=(k.ok p);have D:=this.1;have C:=this.2;omega
 rw[if_neg zS]at h;refine Xm @encXs.eq_1 ?_;refine Zcf @Xk t ?_ (s:=(Gu G x Col.new.ent (Zd r.nodes) (by rw[Zm];exact u) (by rw[Zm];exact f)));refine Z2 rfl (λd=>?_) (λd=>?_);have d:Uf r.nodes>64:=zu d;rw[if_pos d]at h;refine Z ?_
 rw[h]<;>rfl
 have d:¬ Uf r.nodes>64:=zu d;rw[if_neg d]at h;refine Z0 ?_;refine AW.weak (Zl (λo=>o==8) (l:=[(5,.view .new (.agg [Za .any 3 Wu a,.int .i64 r.i,encXs .new r.nodes,.int .i64 r.e,.func (.func 219) [] []])),(2,.ptr 2 j 0)]) (m:=[(2,.cells .new j 0 [.nils])]) ?_ ?_) ?_;refine Zs ?_;exact⟨Fz.ptr (v:=.agg [Za .any 3 Wu a,.int .i64 r.i,encXs .new r.nodes,.int .i64 r.e,.func (.func 219) [] []]) (c:=.new) (fz:=0) rfl zp,Zb⟩;simp only[Zt,Zv,and_true];exact FzO.keep rfl zp;refine Z6 ?_;refine Zy ⟨λ_=>.top,λi=>if i=3 then .lend else if i=8 then .lend else .pure⟩ zk t zk zk ?_;refine Xr @encXs.eq_1 ?_;refine Z ?_
 rw[h]<;>rfl
theorem E8:∀ (f:Nat) (s:List UInt8) (i:Nat) (acc:List Tk),(∀ t∈acc,t.text.length<=s.length)->∀ t∈(Uk f s i acc).1,t.text.length<=s.length
 |0,s,i,acc,h=>by rw[Uk];exact h
 |f+1,s,i,acc,h=>by
  rw[Uk]
  split
  split
  intro t a;cases a;refine E8 f s _ _ ?_;intro t a
  rcases List.mem_append.1 a with b|b
  exact h t b;rw[List.mem_singleton.1 b]
  show((s.drop i).take _).length<=s.length
  rw[List.length_take,List.length_drop];omega;exact h
theorem El{s:List UInt8}(b:s.length<100000):TkOk (Y4 s).1:=by
 unfold Y4
 split
 exact⟨Nat.zero_lt_succ _,λt a=>by cases a⟩;refine⟨?_,?_⟩;have:=Zga (s.length+1) s (blk s) [];have c:([]:List Tk).length=0:=rfl;omega;intro t a;have:=E8 (s.length+1) s (blk s) [] (λt a=>by cases a) t a;omega
theorem Zmh(G:Nat->V)(F:GExp G)(s:List UInt8)(I:s.length<100000):Spec Tryz.prog G 113 [.str s] Zj (λv _=>v=encFr .new (Sr s)):=by
 have A:=F.ok;refine Zo 0 60 [.cell 2 94,.tmp 3,.tmp 4] Tryz.func113 λX=>?_
 have a:Sr s=if(Y4 s).2.2≠0 then(([]:List XN),(Y4 s).2.1,(Y4 s).2.2)
  else if(X5 (Y4 s).1).2.2=3 then([],0,3)
  else if(X5 (Y4 s).1).2.2=0/\(X5 (Y4 s).1).2.1=((Y4 s).1.length:Nat)then((X5 (Y4 s).1).1,0,0)
  else([],if(X5 (Y4 s).1).2.1=((Y4 s).1.length:Nat)then(s.length:Int)else((Y4 s).1.getD (X5 (Y4 s).1).2.1.toNat ⟨0,[],0⟩).pos,if(X5 (Y4 s).1).2.2=0 then 80 else(X5 (Y4 s).1).2.2):=rfl
 generalize Sr s=K at a⊢;have E:=El I;have J:=Th G F s I;have g:=λc=>E1 G F c (Zd (Y4 s).1) (by rw[Zm];exact E);simp only[Zm]at g;have D:=Ov (l:=(Y4 s).1);generalize Y4 s=t at a E J g D;generalize X5 t.1=p at a g D;obtain⟨l,L,H⟩:=t;obtain⟨M,i,e⟩:=p;simp only at a E g D;refine Z1 ?_;intro O;refine Z1 ?_;refine Zn A ?_ (s:=J);refine Xr (zi @encTok.eq_1 (zi @encTks.eq_1 @Vl)) ?_;refine Z1 ?_
 by_cases n:H=0
 rotate_left;have C:(H != 0)=true:=zu n;rw[if_pos n]at a;refine Z2 rfl (λd=>?_) (λd=>?_);refine Z ?_
 rw[a]<;>rfl
 rw[C]at d;cases d;have C:(H != 0)=false:=zu n;rw[if_neg (zu n)]at a;refine Z2 rfl (λd=>?_) (λd=>?_);rw[C]at d;cases d;refine Z1 ?_;refine Znf @Vl A ?_ (s:=(g _));refine Xr (zi @encFr.eq_1 (zi @encXs.eq_1 @Xk)) ?_;intro N;refine Z1 ?_
 by_cases j:e=3
 have B:(e==3)=true:=zu j;rw[if_pos j]at a;refine Z2 rfl (λb=>?_) (λb=>?_);refine Z ?_
 rw[a,j]<;>rfl
 rw[B]at b;cases b;have B:(e==3)=false:=zu j;rw[if_neg j]at a;refine Z2 rfl (λb=>?_) (λb=>?_);rw[B]at b;cases b
 by_cases x:e=0
 have w:(e==0)=true:=zu x
 by_cases k:i=(l.length:Nat)
 have o:(i==((l.length:Nat):Int))=true:=zu k;rw[if_pos ⟨x,k⟩]at a;refine Xm (zi w o) ?_;refine Z2 rfl (λz=>?_) (λz=>?_);refine Z ?_
 rw[a]<;>rfl
 cases z;have o:(i==((l.length:Nat):Int))=false:=zu k;rw[if_neg (λh=>k h.2),if_neg k,if_pos x]at a;obtain⟨m,rfl⟩:∃ m:Nat,i=m:=⟨i.toNat,zo⟩;have r:m<l.length:=zo;obtain⟨q,f⟩:∃ q,l[m]?=some q:=⟨_,List.getElem?_eq_getElem r⟩
 have u:(l.getD ((m:Nat):Int).toNat ⟨0,[],0⟩)=q:=by rw[Int.toNat_natCast,List.getD_eq_getElem?_getD,f]<;>rfl
 rw[u]at a;refine Xm (zi w o) ?_;refine Xm w ?_;refine Z1 ?_;refine Xm o ?_;refine Z0 ?_;refine Z6 ?_;refine Zy ⟨λ_=>.top,λi=>if i=5 then .lend else .pure⟩ zk A zk zk ?_;refine Xr (zi f @Vr) ?_;refine Z ?_
 rw[a]<;>rfl
 have w:(e==0)=false:=zu x;rw[if_neg (λh=>x h.1),if_neg x]at a;refine Xm w ?_;refine Xm w ?_;refine Z0 ?_;refine Z6 ?_
 by_cases k:i=(l.length:Nat)
 have o:(i==((l.length:Nat):Int))=true:=zu k;rw[if_pos k]at a;refine Xm o ?_;refine Z2 rfl (λy=>?_) (λy=>?_);refine Z ?_
 rw[a]<;>rfl
 cases y;have o:(i==((l.length:Nat):Int))=false:=zu k;rw[if_neg k]at a;obtain⟨m,rfl⟩:∃ m:Nat,i=m:=⟨i.toNat,zo⟩;have r:m<l.length:=zo;obtain⟨q,f⟩:∃ q,l[m]?=some q:=⟨_,List.getElem?_eq_getElem r⟩
 have u:(l.getD ((m:Nat):Int).toNat ⟨0,[],0⟩)=q:=by rw[Int.toNat_natCast,List.getD_eq_getElem?_getD,f]<;>rfl
 rw[u]at a;refine Xm o ?_;refine Z0 ?_;refine Z6 ?_;refine Zy ⟨λ_=>.top,λi=>if i=5 then .lend else .pure⟩ zk A zk zk ?_;refine Xr (zi f @Vr) ?_;refine Z ?_
 rw[a]<;>rfl
end Go.Hs
end

section
namespace Go.Hs
theorem Z1a{l:List Tk}(h:(X5 l).2.2≠0):(X5 l).1=[]:=by
 unfold X5 at h⊢
 grind
structure ASt where
 kind:Int
 name:List UInt8
 x:List XN
 deriving DecidableEq,Inhabited
def Ox:List UInt8:=[101,109,105,116]
def Wi(l:List Tk)(i:Nat):List UInt8:=match l[i]? with|some t=>t.text|none=>[]
def N9(l:List Tk)(i:Nat):Bool:=match l[i]? with|some t=>t.kind==2|none=>false
theorem Zfa{l:List Tk}{i:Nat}{t:Tk}(h:l[i]?=some t):Wi l i=t.text:=by unfold Wi;rw[h]
theorem Hd{l:List Tk}{i:Nat}(h:l.length<=i):Wi l i=[]:=by unfold Wi;grind
theorem Cn{l:List Tk}{i:Nat}{t:Tk}(h:l[i]?=some t):N9 l i=(t.kind==2):=by unfold N9;rw[h]
theorem K2{l:List Tk}{i:Nat}(h:l.length<=i):N9 l i=false:=by unfold N9;grind
def Vy(l:List Tk):List (List UInt8)->Nat->Bool×Nat
 |[],i=>(true,i)
 |w::r,i=>if Wi l i=w then Vy l r (i+1)else(false,i)
def Jo(l:List Tk)(s:ASt)(ws:List (List UInt8))(i:Nat):ASt×Int×Int:=
 ((s,((Vy l ws i).2:Int),if(Vy l ws i).1=true then 0 else 110))
def Fc(l:List Tk)(k:Int)(nm:List UInt8)(ws:List (List UInt8))(i:Nat):ASt×Int×Int:=
 if(X5 (l.drop i)).2.2≠0 then(⟨k,nm,[]⟩,(i:Int)+(X5 (l.drop i)).2.1,(X5 (l.drop i)).2.2)
 else Jo l ⟨k,nm,(X5 (l.drop i)).1⟩ ws (i+(X5 (l.drop i)).2.1.toNat)
def Sk(l:List Tk)(k:Int)(w:List UInt8)(ws:List (List UInt8))(i:Nat):ASt×Int×Int:=
 if N9 l i=false then(⟨k,[],[]⟩,(i:Int),110)
 else if Wi l (i+1)≠w then(⟨k,Wi l i,[]⟩,((i+1:Nat):Int),110)
 else if k=2/\Wi l (i+2)=[41]then Jo l ⟨k,Wi l i,[]⟩ ws (i+2)
 else Fc l k (Wi l i) ws (i+2)
def Ul(l:List Tk)(i:Nat):ASt×Int×Int:=
 if Wi l i=Ox then Sk l 2 [40] [[41],[59]] (i+1)else Sk l 1 [58,61] [[59]] i
theorem Z3h{l:List Tk}:∀ (ws:List (List UInt8)) (i:Nat),i<=(Vy l ws i).2
 |[],i=>Nat.le_refl _
 |w::r,i=>by
  rw[Vy]
  split
  exact Nat.le_trans (Nat.le_succ i) (Z3h r (i+1))
  grind
theorem Jk{l:List Tk}{i:Nat}(h:Wi l i≠[]):i<l.length:=by
 refine Classical.byContradiction λa=>h (Hd (by omega))
theorem Z2h{l:List Tk}:∀ (ws:List (List UInt8)) (i:Nat),(∀ w∈ws,w≠[])->(Vy l ws i).1=true->(Vy l ws i).2=i+ws.length/\(ws≠[]->(Vy l ws i).2<=l.length)
 |[],i,_,_=>⟨rfl,λh=>absurd rfl h⟩
 |w::r,i,hw,h=>by
  rw[Vy]at h⊢
  split at h
  rename_i b;rw[if_pos b];obtain⟨e,d⟩:=Z2h r (i+1) (λx a=>hw x (List.mem_cons_of_mem _ a)) h;refine⟨by grind,λ_=>?_⟩;have c:=Jk (l:=l) (i:=i) (by grind)
  grind
  cases h
structure StB(l:List Tk)(i:Nat)(r:ASt×Int×Int):Prop where
 ge:(i:Int)<=r.2.1
 ok:r.2.2=0->(i:Int)<r.2.1/\r.2.1<=l.length
theorem Znx{l:List Tk}{s:ASt}{a:List (List UInt8)}{i j:Nat}(c:∀ w∈a,w≠[])(b:a≠[])(e:i<=j):StB l i (Jo l s a j):=by
 have o:=Z3h (l:=l) a j;refine⟨by show(i:Int)<=((Vy l a j).2:Int);omega,λh=>?_⟩
 have d:(Vy l a j).1=true:=by
  refine Classical.byContradiction λn=>?_;have h:(if(Vy l a j).1=true then(0:Int)else 110)=0:=h
  grind
 obtain⟨m,f⟩:=Z2h a j c d;have k:=f b;have g:0<a.length:=List.length_pos_iff.2 b
 show(i:Int)<((Vy l a j).2:Int)/\((Vy l a j).2:Int)<=l.length
 omega
theorem Ziba{l:List Tk}{k:Int}{nm:List UInt8}{a:List (List UInt8)}{i j:Nat}(b:∀ w∈a,w≠[])(c:a≠[])(d:i<=j):StB l i (Fc l k nm a j):=by
 unfold Fc;have f:=(Ov (l:=l.drop j)).1
 split
 rename_i h;exact⟨by grind,λe=>absurd e h⟩;exact Znx b c (by omega)
theorem Zmx{l:List Tk}{k:Int}{w:List UInt8}{a:List (List UInt8)}{i j:Nat}(b:∀ w∈a,w≠[])(c:a≠[])(d:i<=j):StB l i (Sk l k w a j):=by
 unfold Sk
 split
 exact⟨by grind,λh=>by cases h⟩
 split
 exact⟨by grind,λh=>by cases h⟩
 split
 exact Znx b c (by omega);exact Ziba b c (by omega)
theorem En(l:List Tk)(i:Nat):StB l i (Ul l i):=by
 unfold Ul
 split
 exact Zmx (by decide) (by decide) (by omega);exact Zmx (by decide) (by decide) (Nat.le_refl _)
def Hp(l:List Tk)(n:Nat)(i:Int):Int:=if i<l.length then(l.getD i.toNat ⟨0,[],0⟩).pos else n
def Kn(l:List Tk)(n:Nat):Nat->Nat->List ASt->List ASt×Int×Int
 |0,_,acc=>(acc,0,0)
 |f+1,i,acc=>
  if l.length<=i then(acc,0,0)
  else if acc.length=512 then([],Hp l n i,3)
  else if(Ul l i).2.2≠0 then([],Hp l n (Ul l i).2.1,(Ul l i).2.2)
  else Kn l n f (Ul l i).2.1.toNat (acc++[(Ul l i).1])
def Tu(s:List UInt8):List ASt×Int×Int:=
 if(Y4 s).2.2≠0 then([],(Y4 s).2.1,(Y4 s).2.2)else Kn (Y4 s).1 s.length ((Y4 s).1.length+1) 0 []
end Go.Hs
end

section
namespace Go.Hs
open Go.Proofs
set_option maxRecDepth 10000
def R3(c:Col)(s:ASt):V:=.agg [.int .u8 s.kind,.str s.name,Za c 6 Xp (Zd s.x)]
theorem Nx(c:Col)(s:ASt):R3 c s=.agg [.int .u8 s.kind,.str s.name,Za c 6 Xp (Zd s.x)]:=rfl
end Go.Hs
end

section
namespace Go.Hs
inductive Sub:X->X->Nat->Prop where
 |refl (x:X):Sub x x 0
 |un {op:Int} {a y:X} {b:Nat}:Sub a y b->Sub (.un op a) y b
 |bin1 {op:Int} {a c y:X} {b:Nat}:Sub a y b->Sub (.bin op a c) y b
 |bin2 {op:Int} {a c y:X} {b:Nat}:Sub c y b->Sub (.bin op a c) y (a.size+b)
 |ite1 {a c d y:X} {b:Nat}:Sub a y b->Sub (.ite a c d) y b
 |ite2 {a c d y:X} {b:Nat}:Sub c y b->Sub (.ite a c d) y (a.size+b)
 |ite3 {a c d y:X} {b:Nat}:Sub d y b->Sub (.ite a c d) y (a.size+c.size+b)
def P8:X->List X
 |.leaf op num name=>[.leaf op num name]
 |.un op a=>P8 a++[.un op a]
 |.bin op a c=>P8 a++P8 c++[.bin op a c]
 |.ite a c d=>P8 a++P8 c++P8 d++[.ite a c d]
theorem W0:∀ x:X,(P8 x).length=x.size
 |.leaf .. => rfl
 |.un _ a=>by simp[P8,X.size,W0 a]
 |.bin _ a b=>by simp[P8,X.size,W0 a,W0 b];omega
 |.ite a b c=>by simp[P8,X.size,W0 a,W0 b,W0 c];omega
theorem Sub.ok{x y:X}{b:Nat}(h:Sub x y b):x.ok=true->y.ok=true:=by
 induction h with
 |refl=>grind
 |un _ ih=>intro h;simp[X.ok]at h;exact ih h.2
 |bin1 _ ih=>intro h;simp[X.ok]at h;exact ih h.1.2
 |bin2 _ ih=>intro h;simp[X.ok]at h;exact ih h.2
 |ite1 _ ih=>intro h;simp[X.ok]at h;exact ih h.1.1
 |ite2 _ ih=>intro h;simp[X.ok]at h;exact ih h.1.2
 |ite3 _ ih=>intro h;simp[X.ok]at h;exact ih h.2
theorem Sub.size{x y:X}{b:Nat}(h:Sub x y b):b+y.size<=x.size:=by
 induction h with
 |refl=>simp
 |un _ ih=>simp only[X.size];omega
 |bin1 _ ih=>simp only[X.size];omega
 |bin2 _ ih=>simp only[X.size];omega
 |ite1 _ ih=>simp only[X.size];omega
 |ite2 _ ih=>simp only[X.size];omega
 |ite3 _ ih=>simp only[X.size];omega
theorem Sub.at{x y:X}{b:Nat}(h:Sub x y b):∀ {l:List XN} {k:Nat},At l x k->At l y (k+b):=by
 induction h with
 |refl=>grind
 |un _ ih=>intro l k h;exact ih h.un
 |bin1 _ ih=>intro l k h;exact ih h.bin.1
 |bin2 _ ih=>intro l k h;rw[<- Nat.add_assoc];exact ih h.bin.2
 |ite1 _ ih=>intro l k h;exact ih h.ite.1
 |ite2 _ ih=>intro l k h;rw[<- Nat.add_assoc];exact ih h.ite.2.1
 |ite3 _ ih=>intro l k h;rw[<- Nat.add_assoc,<- Nat.add_assoc];exact ih h.ite.2.2
theorem Z84(x:X):(P8 x)[x.size-1]?=some x:=by
 have:∃ l,P8 x=l++[x]:=by
  cases x with
  |leaf=>exact⟨[],rfl⟩
  |un=>exact⟨_,rfl⟩
  |bin=>exact⟨_,rfl⟩
  |ite=>exact⟨_,rfl⟩
 obtain⟨l,h⟩:=this;have a:=W0 x
 grind
theorem Sub.get{x y:X}{b:Nat}(h:Sub x y b):(P8 x)[b+y.size-1]?=some y:=by
 have e:=y.size_pos
 induction h with
 |refl x=>rw[Nat.zero_add];exact Z84 x
 |@un op a y b h ih=>
  have:=h.size;have g:=W0 a;rw[P8,List.getElem?_append_left (by omega)];exact ih e
 |@bin1 op a c y b h ih=>
  have:=h.size;have g:=W0 a;rw[P8,List.append_assoc,List.getElem?_append_left (by omega)];exact ih e
 |@bin2 op a c y b h ih=>
  have:=h.size;have g:=W0 a;have f:=W0 c;rw[P8,List.append_assoc,List.getElem?_append_right (by omega),List.getElem?_append_left (by omega),<- ih e]
  congr 1;omega
 |@ite1 a c d y b h ih=>
  have:=h.size;have g:=W0 a;rw[P8,List.append_assoc,List.append_assoc,List.getElem?_append_left (by omega)];exact ih e
 |@ite2 a c d y b h ih=>
  have:=h.size;have g:=W0 a;have f:=W0 c;rw[P8,List.append_assoc,List.append_assoc,List.getElem?_append_right (by omega),List.getElem?_append_left (by omega),<- ih e]
  congr 1;omega
 |@ite3 a c d y b h ih=>
  have:=h.size;have g:=W0 a;have f:=W0 c;have i:=W0 d;rw[P8,List.append_assoc,List.append_assoc,List.getElem?_append_right (by omega),List.getElem?_append_right (by omega),List.getElem?_append_left (by omega),<- ih e]
  congr 1;omega
theorem Nf:∀ (x:X) (i:Nat),i<x.size->∃ y b,Sub x y b/\b+y.size=i+1
 |.leaf op num name,i,h=>⟨_,0,.refl _,by simp only[X.size]at h⊢;omega⟩
 |.un op a,i,h=>by
  by_cases k:i<a.size
  obtain⟨y,b,e,f⟩:=Nf a i k;exact⟨y,b,.un e,f⟩;exact⟨_,0,.refl _,by simp only[X.size]at h⊢;omega⟩
 |.bin op a c,i,h=>by
  by_cases k:i<a.size
  obtain⟨y,b,e,f⟩:=Nf a i k;exact⟨y,b,.bin1 e,f⟩
  by_cases g:i-a.size<c.size
  obtain⟨y,b,e,f⟩:=Nf c (i-a.size) g;exact⟨y,_,.bin2 e,by omega⟩;exact⟨_,0,.refl _,by simp only[X.size]at h⊢;omega⟩
 |.ite a c d,i,h=>by
  by_cases k:i<a.size
  obtain⟨y,b,e,f⟩:=Nf a i k;exact⟨y,b,.ite1 e,f⟩
  by_cases g:i-a.size<c.size
  obtain⟨y,b,e,f⟩:=Nf c (i-a.size) g;exact⟨y,_,.ite2 e,by omega⟩
  by_cases j:i-a.size-c.size<d.size
  obtain⟨y,b,e,f⟩:=Nf d (i-a.size-c.size) j;exact⟨y,_,.ite3 e,by omega⟩;exact⟨_,0,.refl _,by simp only[X.size]at h⊢;omega⟩
theorem Sub.top{x y:X}{b:Nat}(h:Sub x y b):(x.row 0)[b+y.size-1]?=some (y.top b):=by
 have:=(h.at (Zk9 x)).get
 grind
theorem sub_at(x:X)(i:Nat)(h:i<x.size):∃ y b,Sub x y b/\b+y.size=i+1/\(P8 x)[i]?=some y/\(x.row 0)[i]?=some (y.top b):=by
 obtain⟨y,b,a,c⟩:=Nf x i h
 have e:i=b+y.size-1:=by omega
 exact⟨y,b,a,c,e ▸ a.get,e ▸ a.top⟩
def kd(op:Int)(named:Bool)(a b c:Int):Int:=
 if op=1\/op=2/\named=true then 1
 else if op=3\/op=4 then 2
 else if op=5/\a=1\/7<=op/\op<=11/\a=1/\b=1 then 1
 else if 12<=op/\op<=15/\a=1/\b=1\/(op=16\/op=17)/\a=b/\a≠0 then 2
 else if op=6/\a=2\/18<=op/\op<=21/\a=2/\b=2 then 2
 else if op=22/\a=2/\b=c then b else 0
theorem Zo7{op:Int}{nm:Bool}{a b c:Int}(d:0<=b/\b<=2):0<=kd op nm a b c/\kd op nm a b c<=2:=by
 unfold kd
 grind
def Me(ks:List Int)(i:Int):Int:=if i<0 then 0 else ks.getD i.toNat 0
def Kj(names:List (List UInt8))(n:XN)(ks:List Int):Int:=kd n.op (names.contains n.name) (Me ks n.a) (Me ks n.b) (Me ks n.c)
def goN(names:List (List UInt8)):List XN->Int->List Int->List Int×Int×Int
 |[],_,acc=>(acc,0,0)
 |n::r,i,acc=>if Kj names n acc=0 then([],i,90)else goN names r (i+1) (acc++[Kj names n acc])
def PlOk(k:Nat)(n:XN):Prop:=Pk n=true/\(0<Yl n.op->0<=n.a/\n.a<k)/\(1<Yl n.op->0<=n.b/\n.b<k)/\(2<Yl n.op->0<=n.c/\n.c<k) /\
 (¬ 0<Yl n.op->n.a = -1)/\(¬ 1<Yl n.op->n.b = -1)/\(¬ 2<Yl n.op->n.c = -1)
theorem Zj6{x y:X}{b i:Nat}(j:x.ok=true)(h:Sub x y b)(hi:b+y.size=i+1):PlOk i (y.top b):=by
 have f:=h.ok j
 cases y with
 |leaf op num name=>
  simp only[X.ok,Bool.and_eq_true,decide_eq_true_eq]at f
  have e:Yl op=0:=by unfold Yl;rw[if_pos f.2]
  refine⟨f.1,?_⟩;simp only[X.top,e];exact⟨λh=>absurd h (by decide),λh=>absurd h (by decide),λh=>absurd h (by decide),λ_=>trivial,λ_=>trivial,λ_=>trivial⟩
 |un op a=>
  simp only[X.ok,Bool.and_eq_true,decide_eq_true_eq]at f
  have e:Yl op=1:=by unfold Yl;rw[if_neg (by omega),if_pos (by omega)]
  have g:=a.size_pos;simp only[X.size]at hi;refine⟨Zyb (by omega) _ _ _,?_⟩;simp only[X.top,e];exact⟨λ_=>by omega,λh=>absurd h (by decide),λh=>absurd h (by decide),λh=>absurd (by decide) h,λ_=>trivial,λ_=>trivial⟩
 |bin op a c=>
  simp only[X.ok,Bool.and_eq_true,decide_eq_true_eq]at f
  have e:Yl op=2:=by unfold Yl;rw[if_neg (by omega),if_neg (by omega),if_pos (by omega)]
  have g:=a.size_pos;simp only[X.size]at hi;refine⟨Zyb (by omega) _ _ _,?_⟩;simp only[X.top,e];exact⟨λ_=>by omega,λ_=>by omega,λh=>absurd h (by decide),λh=>absurd (by decide) h,λh=>absurd (by decide) h,λ_=>trivial⟩
 |ite a c d=>
  have e:Yl 22=3:=by decide
  have g:=a.size_pos;simp only[X.size]at hi;refine⟨Zyb (by decide) _ _ _,?_⟩;simp only[X.top,e];exact⟨λ_=>by omega,λ_=>by omega,λ_=>by omega,λh=>absurd (by decide) h,λh=>absurd (by decide) h,λh=>absurd (by decide) h⟩
theorem Zk6{l:List XN}(h:Uf l≠0){i:Nat}{n:XN}(a:l[i]?=some n):PlOk i n:=by
 obtain⟨x,c,rfl⟩:=Znt h
 have d:i<x.size:=by rw[<- X.row_len x 0];grind
 obtain⟨y,b,g,f,j,e⟩:=sub_at x i d;rw[e]at a;cases a;exact Zj6 c g f
end Go.Hs
end

section
namespace Go.Hs
open Go.Proofs
set_option maxRecDepth 10000
def ruleC:List V:=[0,0,0,0,0,0,0,1,0,0,0,1,0,0,0,2,0,0,0,2,1,0,0,1,2,0,0,2,1,1,0,1,1,1,0,1,1,1,0,1,1,1,0,1,1,1,0,1,1,1,0,2,1,1,0,2,1,1,0,2,1,1,0,2,3,3,0,2,3,3,0,2,2,2,0,2,2,2,0,2,2,2,0,2,2,2,0,2,2,3,3,3].map (V.int .u8)
def Dj(op:Nat):Int:=if op<=4 then 0 else if op=5\/(7<=op/\op<=15)then 1 else if op=16\/op=17 then 3 else 2
def Zii(op:Nat):Int:=if op<=6 then 0 else if op<=15 then 1 else if op<=17\/op=22 then 3 else 2
def Di(op:Nat):Int:=if op=22 then 3 else 0
def Zpx(op:Nat):Int:=if op=0 then 0 else if op<=2 then 1 else if op=22 then 3 else if op=5\/(7<=op/\op<=11)then 1 else 2
theorem Zlz(op:Nat)(h:op<23):(ruleC.drop (op*4)).take 4=[.int .u8 (Dj op),.int .u8 (Zii op),.int .u8 (Di op),.int .u8 (Zpx op)]:=by
 match op,h with
 |0,_=>rfl
 |1,_=>rfl
 |2,_=>rfl
 |3,_=>rfl
 |4,_=>rfl
 |5,_=>rfl
 |6,_=>rfl
 |7,_=>rfl
 |8,_=>rfl
 |9,_=>rfl
 |10,_=>rfl
 |11,_=>rfl
 |12,_=>rfl
 |13,_=>rfl
 |14,_=>rfl
 |15,_=>rfl
 |16,_=>rfl
 |17,_=>rfl
 |18,_=>rfl
 |19,_=>rfl
 |20,_=>rfl
 |21,_=>rfl
 |22,_=>rfl
 |n+23,h=>omega
theorem Z5h(G:Nat->V)(a:Y6 G):Spec Tryz.prog G 222 [] Zj (λv _=>v=.agg ruleC):=by
 refine Zo 0 39 [.cell 0 275] Tryz.func222 λX=>?_;refine Z1 ?_;intro f;refine Z1 ?_;intro e d;refine Z1 ?_;intro c b;exact Zr
theorem Zec(G:Nat->V)(q:Y6 G)(c:Col)(t:List UInt8)(s:Sl (List UInt8))(o:s.l.length<1000000):
  Spec Tryz.prog G 215 [Za c 1 V.str s,.str t] Zj (λv _=>∃ i:Int,v=.int .i64 i/\decide (i>=0)=s.l.contains t):=by
 refine Zo 0 19 [.tmp 4] Tryz.func215 λX=>?_;refine Z1 ?_;refine Z1 ?_;refine AW.block ?_
 refine Yc s.l.length (λk (_:Unit)=>st [(0,Za c 1 V.str s),(1,.str t),(7,.int .i64 s.l.length),(8,.int .i64 k)] []) (λk _=>(s.l.take k).contains t=false) 0 () (Nat.zero_le _) rfl
  (Weak.st zp zp) ?_
 intro k _ p f r g;refine Z1 ?_;refine Z6 ?_;refine Z2 rfl (λj=>?_) (λj=>?_);have a:k<s.l.length:=zu j;have m:=List.getElem?_eq_getElem a
 have e:s.l.take (k+1)=s.l.take k++[s.l[k]]:=by rw[List.take_succ_eq_append_getElem a]
 have b:=List.getElem_mem a;generalize s.l[k]=x at m e b;refine Z1 ?_;refine Xm m ?_;refine Z2 rfl (λd=>?_) (λd=>?_);have d:t=x:=zu d;refine Z ?_
 have:s.l.contains t=true:=by rw[d];simpa using b
 rw[this];exact⟨_,rfl,by rw[decide_eq_true_iff];omega⟩;have d:¬ t=x:=zu d;refine Z1 ?_;refine g _ ⟨a,(),?_,Weak.st zw zp⟩;rw[e];simp only[List.contains_eq_mem,decide_eq_false_iff_not]at f⊢;intro n
 rcases List.mem_append.1 n with h|h
 exact f h;exact d (List.mem_singleton.1 h)
 have a:k=s.l.length:=by simp at j;omega
 refine Z ?_;rw[a,List.take_length]at f;rw[f];exact⟨_,rfl,rfl⟩
theorem U2(G:Nat->V)(a:Y6 G)(c:Col)(t:List UInt8)(s:Sl (List UInt8))(b:s.l.length<1000000):
  Spec Tryz.prog G 157 [Za c 1 V.str s,.str t] Zj (λv _=>v=.bool (s.l.contains t)):=by
 refine Zo 0 9 [.tmp 4] Tryz.func157 λX=>?_;refine Z1 ?_;refine Z1 ?_;refine CallA.pure a zk ?_;refine Zs ?_;refine(Zec G a _ t s b).mono ?_;rintro _ _ ⟨i,rfl,d⟩;refine Zs ?_;refine Z ?_;rw[d]
theorem Z74(G:Nat->V)(j:Y6 G)(c:Col)(s:Sl Int)(h:s.l.length<1000000)(i:Int)(hi:i<0\/0<=i/\i<s.l.length):
  Spec Tryz.prog G 245 [.int .i64 i,.view .old (Za c 1 (V.int .u8) s)] Zj (λv _=>v=.int .u8 (Me s.l i)):=by
 refine Zo 0 10 [.tmp 3] Tryz.func245 λX=>?_
 have a:Me s.l i=if i<0 then 0 else s.l.getD i.toNat 0:=rfl
 generalize Me s.l i=f at a⊢;refine Z1 ?_;refine Z1 ?_;refine Z2 rfl (λb=>?_) (λb=>?_);have b:i<0:=zu b;rw[if_pos b]at a;refine Z ?_;rw[a];have b:¬ i<0:=zu b;rw[if_neg b]at a;obtain⟨m,rfl⟩:∃ m:Nat,i=m:=⟨i.toNat,zo⟩;have g:m<s.l.length:=zo;have e:=List.getElem?_eq_getElem g
 have d:s.l.getD ((m:Nat):Int).toNat 0=s.l[m]:=by rw[Int.toNat_natCast,List.getD_eq_getElem?_getD,e]<;>rfl
 rw[d]at a;generalize s.l[m]=x at e a;refine Zf e ?_;rw[a]
end Go.Hs
end
