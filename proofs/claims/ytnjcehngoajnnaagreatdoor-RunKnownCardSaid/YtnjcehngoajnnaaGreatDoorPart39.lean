/- Part 39 of a proof; no condition. -/
import Derived.Test.YtnjcehngoajnnaaGreatDoorPart38
set_option linter.unusedSimpArgs false
set_option linter.unusedVariables false
section
namespace Go.Hs
open Go.Proofs
set_option maxRecDepth 10000
theorem Z2j (G:Nat→V) (hG:GOk G) (c:Col) (s:Sl Tk) (i:Nat) :
  Spec Tryz.prog G 123 [Za c 3 Zib s,.int .i64 i] Zm (fun v _=>v = .str (Zxb s.l i)):=by
 refine Zo 0 14 [.tmp 4] Tryz.func123 fun X=>?_;refine Z1 ?_;refine Z5 ?_
 by_cases hi:i<s.l.length
 ·have h1:decide ((i:Int)<s.l.length)=true:=zT
  have hg:=List.getElem?_eq_getElem hi;generalize s.l[i]=t at hg;rw [Zzf hg];refine Z1f h1 ?_;refine Ze rfl (fun h8=>?_) (fun h8=>?_)
  ·exact Zq (zi hg @Z3b)
  ·cases h8
 ·have h1:decide ((i:Int)<s.l.length)=false:=zF
  refine Zf h1 ?_;rw [Zgi (by omega)]
theorem Z9y (G:Nat→V) (hG:GOk G) (c:Col) (s:Sl Tk) (i:Nat) :
  Spec Tryz.prog G 124 [Za c 3 Zib s,.int .i64 i] Zm (fun v _=>v = .bool (Zgh s.l i)):=by
 refine Zo 0 17 [.tmp 4] Tryz.func124 fun X=>?_;refine Z1 ?_
 by_cases hi:i<s.l.length
 ·have h1:decide ((i:Int)<s.l.length)=true:=zT
  have hg:=List.getElem?_eq_getElem hi;generalize s.l[i]=t at hg;rw [Zfh hg];exact Zq (zi h1 (zi hg @Z3b))
 ·have h1:decide ((i:Int)<s.l.length)=false:=zF
  rw [Zpf (by omega)];exact Zq h1
def Zmg (c:Col) (s:ASt):V := .agg [.int .u8 s.kind,.str s.name,Za c 6 Z8 (Zv s.x)]
theorem Z1k (c:Col) (s:ASt):Zmg c s = .agg [.int .u8 s.kind,.str s.name,Za c 6 Z8 (Zv s.x)]:=rfl
def encSR (r:ASt × Int × Int):V := .tuple [Zmg .new r.1,.int .i64 r.2.1,.int .i64 r.2.2]
theorem Zx6 (G:Nat→V) (hG:GOk G) (c:Col) (sl:Sl Tk) (hT:TkOk sl.l) (i:Nat) (hi:i≤sl.l.length) :
  Spec Tryz.prog G 86 [Za c 3 Zib sl,.int .i64 i] Zm (fun v _=>v=encSR (Z3c sl.l i)):=by
 have hP:Z3c sl.l i=if Zxb sl.l i=Zih then Zme sl.l 2 [40] [[41],[59]] (i+1) else Zme sl.l 1 [58,61] [[59]] i:=rfl
 generalize Z3c sl.l i=res at hP ⊢;have hTl:=hT.len;refine Zo 0 98 [.cell 4 128,.tmp 5,.tmp 6] Tryz.func86 fun X=>?_;refine Z1 ?_;intro g4;refine Z1 ?_;intro g7;refine Z1 ?_;intro g15;refine Z1 ?_;intro g16
 refine Zha (fun (x:(Nat × Int) × List UInt8 × List (List UInt8))=>st [(0,Za c 3 Zib sl),(1,.int .i64 x.1.1),(4,.ptr 4 g4 0),(7,.ptr 7 g7 0),(8,Za .new 1 V.str (.mk false [x.2.1])),(9,Za .new 1 V.str (.mk false x.2.2))] [(4,.cells .new g4 0 [.int .u8 0,.str [],.nils]),(7,.cells .new g7 0 [.int .u8 x.1.2,.str [],.nils])])
  (fun x=>x.1.1≤sl.l.length+1∧(x.1.2=1∨x.1.2=2)∧x.2.2.length≤2∧x.2.1≠[]∧res=Zme sl.l x.1.2 x.2.1 x.2.2 x.1.1) (fun K1 hK1=>?_) ?_
 ·refine Z1 ?_
  refine Znf @Zeb hG ?_ (s:=(Z2j G hG _ sl i))
  by_cases he:Zxb sl.l i=Zih
  ·rw [if_pos he] at hP
   rw [he];unfold Zih;have q1:(([101,109,105,116]:List UInt8)==[101,109,105,116])=true:=rfl;refine Zsf q1 ?_;refine Z1 ?_;refine Z1 ?_;intro g22;refine Z1 ?_;intro g23
   have hw:IntKind.i64.wrap ((i:Int)+1)=((i+1:Nat):Int):=by rw [w64 (by omega) (by omega)];omega
   refine Z1f hw ?_;refine hK1 _ ((i+1,2),[40],[[41],[59]]) ⟨by show i+1≤_;omega,.inr rfl,by show (2:Nat)≤2;decide,by show ([40]:List UInt8)≠[];decide,hP⟩ (Zz (fun o=>o==22 || o==23) ?_ ?_)
   ·refine Zs ?_
    exact ⟨Zd _,Zd _,Zd _,Zd _,Zaf (f:=V.str) (l:=[[40]]) (m:=1) (g:=g22) (fz:=0) (c := .new) rfl zp (fun _=>rfl),Zaf (f:=V.str) (l:=[[41],[59]]) (m:=1) (g:=g23) (fz:=0) (c := .new) rfl zp (fun _=>rfl)⟩
   ·simp only [Zl,Zt,and_true]
    exact ⟨FzO.keep rfl zp,FzO.keep rfl zp⟩
  ·rw [if_neg he] at hP
   have q1:(Zxb sl.l i==[101,109,105,116])=false:=by rw [beq_eq_false_iff_ne];exact he
   refine Zsf q1 ?_;refine Z0 ?_;refine hK1 _ ((i,1),[58,61],[[59]]) ⟨by show i≤_;omega,.inl rfl,by show (1:Nat)≤2;decide,by show ([58,61]:List UInt8)≠[];decide,hP⟩ (Zz (fun o=>o==15 || o==16) ?_ ?_)
   ·refine Zs ?_
    exact ⟨Zd _,Zd _,Zd _,Zd _,Zaf (f:=V.str) (l:=[[58,61]]) (m:=1) (g:=g15) (fz:=0) (c := .new) rfl zp (fun _=>rfl),Zaf (f:=V.str) (l:=[[59]]) (m:=1) (g:=g16) (fz:=0) (c := .new) rfl zp (fun _=>rfl)⟩
   ·simp only [Zl,Zt,and_true]
    exact ⟨FzO.keep rfl zp,FzO.keep rfl zp⟩
 try clear hP
 rintro ⟨⟨j,k⟩,w,ws⟩ ⟨hj,hk,hws,hwne,hP⟩;simp only at hj hk hws hwne hP;have hl1:(Sl.mk false [w]).l=[w]:=rfl;refine Z1 ?_;refine Znf @Zeb hG ?_ (s:=(Z9y G hG _ sl j));unfold Zme at hP
 cases hn:Zgh sl.l j with
 | false =>
  rw [if_pos hn] at hP;refine Zs ?_;refine Z ?_
  rw [hP]<;>rfl
 | true =>
 rw [if_neg (by rw [hn];decide)] at hP
 have hjl:j<sl.l.length:=by
  refine Classical.byContradiction fun h=>?_;rw [Zpf (by omega)] at hn;cases hn
 have hg:=List.getElem?_eq_getElem hjl;generalize sl.l[j]=t at hg;rw [Zzf hg] at hP;refine Zs ?_;refine Z0 ?_
 have hw:IntKind.i64.wrap ((j:Int)+1)=((j+1:Nat):Int):=by rw [w64 (by omega) (by omega)];omega
 have hw2:IntKind.i64.wrap (((j+1:Nat):Int)+1)=((j+2:Nat):Int):=by rw [w64 (by omega) (by omega)];omega
 refine Z1f (zi hg @Z3b) ?_;refine Z1f hw ?_
 have p1:Z5g Tryz.prog G 123 [Za c 3 Zib sl,.int .i64 ((j+1:Nat):Int)] (.str (Zxb sl.l (j+1))):=⟨by kernel_rfl,by
  refine Zsf @Zeb ?_;refine (Z2j G hG _ sl (j+1)).mono ?_;rintro _ _ rfl
  rfl⟩
 refine Z5 ?_
 refine Z5 <| Zy ⟨fun i=>if i=2 then .str (Zxb sl.l (j+1)) else .top,fun _ => .pure⟩ zk hG zk zk ?_
 simp -implicitDefEqProofs only[go_sem,seval,hl1,List.getElem?_cons_zero];refine ⟨p1,?_⟩
 by_cases hw1:Zxb sl.l (j+1)=w
 rotate_left
 ·rw [if_pos hw1] at hP
  have q1:(Zxb sl.l (j+1)==w)=false:=by simpa using hw1
  rw [q1];refine Z ?_
  rw [hP]<;>rfl
 rw [if_neg (by simpa using hw1)] at hP
 have q1:(Zxb sl.l (j+1)==w)=true:=by simpa using hw1
 rw [q1]
 try clear p1
 refine Z0 ?_
 have hjl1:j+1<sl.l.length:=by
  refine Classical.byContradiction fun h=>?_;rw [Zgi (by omega)] at hw1;exact hwne hw1.symm
 refine Z1f hw2 ?_
 refine Zha (fun (x:Nat × List XN)=>st [(0,Za c 3 Zib sl),(1,.int .i64 x.1),(4,.ptr 4 g4 0),(7,.ptr 7 g7 0),(9,Za .new 1 V.str (.mk false ws))] [(4,.cells .new g4 0 [.int .u8 0,.str [],.nils]),(7,.cells .new g7 0 [.int .u8 k,.str t.text,Za .new 6 Z8 (Zv x.2)])])
  (fun x=>x.1≤sl.l.length+2∧res=Zci sl.l ⟨k,t.text,x.2⟩ ws x.1) (fun K4 hK4=>?_) ?_
 ·refine Zha (fun (b:Bool)=>st [(0,Za c 3 Zib sl),(1,.int .i64 ((j+2:Nat):Int)),(4,.ptr 4 g4 0),(7,.ptr 7 g7 0),(9,Za .new 1 V.str (.mk false ws)),(59,.bool b)] [(4,.cells .new g4 0 [.int .u8 0,.str [],.nils]),(7,.cells .new g7 0 [.int .u8 k,.str t.text,.nils])])
   (fun b=>b=true ↔ ¬ (k=2∧Zxb sl.l (j+2)=[41])) (fun K5 hK5=>?_) ?_
  ·rcases hk with rfl | rfl
   ·refine AW.region zk ?_
    have q2:((1:Int)==1)=true:=rfl;refine Zsf q2 ?_;exact hK5 _ true ⟨fun _ h=>absurd h.1 (by decide),fun _=>rfl⟩ (Zb zp zp)
   ·refine AW.region zk ?_
    have q2:((2:Int)==1)=false:=rfl;refine Zsf q2 ?_;refine Zcf @Zeb hG ?_ (s:=(Z2j G hG _ sl (j+2)));refine hK5 _ (!(Zxb sl.l (j+2)==[41])) ⟨fun h h2=>?_,fun h=>?_⟩ (Zb zp zp)
    ·rw [h2.2] at h;cases h
    ·have:¬ Zxb sl.l (j+2)=[41]:=fun h3=>h ⟨rfl,h3⟩
     simpa using this
  intro b hb
  cases b with
  | false =>
   have hq:k=2∧Zxb sl.l (j+2)=[41]:=Classical.byContradiction fun h=>by have:=hb.2 h;cases this
   rw [if_pos hq] at hP;refine Z0 ?_;exact hK4 _ (j+2,[]) ⟨by show j+2≤_;omega,hP⟩ (Zb zp zp)
  | true =>
  have hq:=hb.1 rfl;rw [if_neg hq] at hP;unfold Zzk at hP;refine Zog rfl ?_;have hj2:j+2≤sl.l.length:=hjl1
  have hsub:(sl.sub (j+2) sl.l.length).l=sl.l.drop (j+2):=by rw [Z8h];exact List.take_of_length_le (by rw [List.length_drop];omega)
  have hfr:=fun c=>Zp5 G hG c (sl.sub (j+2) sl.l.length) (by rw [hsub];exact ⟨by rw [List.length_drop];omega,fun t ht=>hT.text t (List.mem_of_mem_drop ht)⟩);have hbd:=Zxi (l:=sl.l.drop (j+2));rw [hsub] at hfr;rw [List.length_drop] at hbd;generalize Zkd (sl.l.drop (j+2))=p at hP hfr hbd;obtain ⟨xs,n,e⟩:=p;simp only at hP hbd
  have hw3:IntKind.i64.wrap (((j+2:Nat):Int)+n)=((j+2+n.toNat:Nat):Int):=by rw [w64 (by omega) (by omega)];omega
  have hll:sl.l.length≤sl.l.length:=Nat.le_refl _;refine Z5c zk ?_;simp -implicitDefEqProofs only[go_sem,seval,hj2,hll,and_self];refine Znf @Zeb hG ?_ (s:=(hfr _));refine Zsf (zi @encRr.eq_1 (zi @encXs.eq_1 @Zk)) ?_;refine Z1f hw3 ?_;refine Z5 ?_
  by_cases he:e=0
  rotate_left
  ·rw [if_pos he] at hP
   have q2:(e==0)=false:=by simpa using he
   refine Z5c zk ?_;simp -implicitDefEqProofs only[go_sem,seval,bne,q2];refine Z ?_
   rw [hP,show ((j+2:Nat):Int)+n=((j+2+n.toNat:Nat):Int) by omega]<;>rfl
  rw [if_neg (by simpa using he)] at hP
  have q2:(e==0)=true:=by simpa using he
  refine Z5c zk ?_;simp -implicitDefEqProofs only[go_sem,seval,bne,q2];refine Z1 ?_;exact hK4 _ (j+2+n.toNat,xs) ⟨by show j+2+n.toNat≤_;omega,hP⟩ (Zb zp zp)
 rintro ⟨i2,xs⟩ ⟨hi2,hP⟩;simp only at hi2 hP;unfold Zci at hP;refine Zx fun K5 hK5=>?_;refine Z1 ?_;refine AW.block ?_
 refine Zwa ws.length (fun m (_:Unit)=>st [(0,Za c 3 Zib sl),(1,.int .i64 ((i2+m:Nat):Int)),(4,.ptr 4 g4 0),(7,.ptr 7 g7 0),(9,Za .new 1 V.str (.mk false ws)),(13,.int .i64 m)] [(4,.cells .new g4 0 [.int .u8 0,.str [],.nils]),(7,.cells .new g7 0 [.int .u8 k,.str t.text,Za .new 6 Z8 (Zv xs)])])
  (fun m _=>Zbc sl.l ws i2=Zbc sl.l (ws.drop m) (i2+m)) 0 () (Nat.zero_le _) rfl (Zb zp zp) ?_
 intro m _ hm hR L7 hL7;refine Z5 ?_;have hwl:(Sl.mk false ws).l=ws:=rfl;refine Z1f hwl ?_;refine Ze rfl (fun h81=>?_) (fun h81=>?_);rotate_left
 ·have hm2:m=ws.length:=by have:=zN h81;omega
  rw [List.drop_eq_nil_of_le (by omega)] at hR;refine Z0 ?_;refine hK5 _ ?_;refine Z ?_;rw [hP,hR]
  show _=encSR (_,((i2+m:Nat):Int),if true=true then 0 else 110)
  rfl
 have hm1:m<ws.length:=zL h81;have hgm:ws[m]? = some ws[m]:=List.getElem?_eq_getElem hm1;have hdr:ws.drop m=ws[m]::ws.drop (m+1):=List.drop_eq_getElem_cons hm1;generalize ws[m]=w2 at hgm hdr;rw [hdr,Zbc] at hR;refine Z0 ?_
 have p2:Z5g Tryz.prog G 123 [Za c 3 Zib sl,.int .i64 ((i2+m:Nat):Int)] (.str (Zxb sl.l (i2+m))):=⟨by kernel_rfl,by
  refine Zsf @Zeb ?_;refine (Z2j G hG _ sl (i2+m)).mono ?_;rintro _ _ rfl
  rfl⟩
 refine Z5 ?_;refine AW.block ?_;refine Z5 ?_
 refine Z5 <| Zy ⟨fun i=>if i=2 then .str (Zxb sl.l (i2+m)) else .top,fun _ => .pure⟩ zk hG zk zk ?_
 refine Zsf (zi hwl hgm) ?_;refine ⟨p2,?_⟩
 try clear p2
 by_cases hw4:Zxb sl.l (i2+m)=w2
 rotate_left
 ·rw [if_neg hw4] at hR
  have q2:(Zxb sl.l (i2+m)==w2)=false:=by simpa using hw4
  rw [q2];refine Z ?_
  rw [hP,hR]<;>rfl
 rw [if_pos hw4] at hR
 have q2:(Zxb sl.l (i2+m)==w2)=true:=by simpa using hw4
 rw [q2];refine Z0 ?_
 have hw5:IntKind.i64.wrap (((i2+m:Nat):Int)+1)=((i2+(m+1):Nat):Int):=by rw [w64 (by omega) (by omega)];omega
 have hw6:IntKind.i64.wrap ((m:Int)+1)=((m+1:Nat):Int):=by rw [w64 (by omega) (by omega)];omega
 refine Z1f hw5 ?_;refine Z1f hw6 ?_;exact hL7 _ ⟨hm1,(),hR,Zb zp zp⟩
end Go.Hs
end

section
namespace Go.Hs
inductive Sub:X→X→Nat→Prop where
 | refl (x:X):Sub x x 0
 | un {op:Int} {a y:X} {b:Nat}:Sub a y b→Sub (.un op a) y b
 | bin1 {op:Int} {a c y:X} {b:Nat}:Sub a y b→Sub (.bin op a c) y b
 | bin2 {op:Int} {a c y:X} {b:Nat}:Sub c y b→Sub (.bin op a c) y (a.size+b)
 | ite1 {a c d y:X} {b:Nat}:Sub a y b→Sub (.ite a c d) y b
 | ite2 {a c d y:X} {b:Nat}:Sub c y b→Sub (.ite a c d) y (a.size+b)
 | ite3 {a c d y:X} {b:Nat}:Sub d y b→Sub (.ite a c d) y (a.size+c.size+b)
def Zmc:X→List X
 | .leaf op num name=>[.leaf op num name]
 | .un op a=>Zmc a++[.un op a]
 | .bin op a c=>Zmc a++Zmc c++[.bin op a c]
 | .ite a c d=>Zmc a++Zmc c++Zmc d++[.ite a c d]
theorem Zvb:∀ x:X,(Zmc x).length=x.size
 | .leaf .. => rfl
 | .un _ a=>by simp [Zmc,X.size,Zvb a]
 | .bin _ a b=>by simp [Zmc,X.size,Zvb a,Zvb b];omega
 | .ite a b c=>by simp [Zmc,X.size,Zvb a,Zvb b,Zvb c];omega
theorem Sub.trans {x y z:X} {b c:Nat} (h:Sub x y b) (h2:Sub y z c):Sub x z (b+c):=by
 induction h with
 | refl=>simpa using h2
 | un _ ih=>exact .un (ih h2)
 | bin1 _ ih=>exact .bin1 (ih h2)
 | bin2 _ ih=>rw [Nat.add_assoc];exact .bin2 (ih h2)
 | ite1 _ ih=>exact .ite1 (ih h2)
 | ite2 _ ih=>rw [Nat.add_assoc];exact .ite2 (ih h2)
 | ite3 _ ih=>rw [Nat.add_assoc];exact .ite3 (ih h2)
theorem Sub.ok {x y:X} {b:Nat} (h:Sub x y b):x.ok=true→y.ok=true:=by
 induction h with
 | refl=>exact id
 | un _ ih=>intro h;simp [X.ok] at h;exact ih h.2
 | bin1 _ ih=>intro h;simp [X.ok] at h;exact ih h.1.2
 | bin2 _ ih=>intro h;simp [X.ok] at h;exact ih h.2
 | ite1 _ ih=>intro h;simp [X.ok] at h;exact ih h.1.1
 | ite2 _ ih=>intro h;simp [X.ok] at h;exact ih h.1.2
 | ite3 _ ih=>intro h;simp [X.ok] at h;exact ih h.2
theorem Sub.size {x y:X} {b:Nat} (h:Sub x y b):b+y.size≤x.size:=by
 induction h with
 | refl=>simp
 | un _ ih=>simp only [X.size];omega
 | bin1 _ ih=>simp only [X.size];omega
 | bin2 _ ih=>simp only [X.size];omega
 | ite1 _ ih=>simp only [X.size];omega
 | ite2 _ ih=>simp only [X.size];omega
 | ite3 _ ih=>simp only [X.size];omega
theorem Sub.depth {x y:X} {b:Nat} (h:Sub x y b):y.depth≤x.depth:=by
 induction h with
 | refl=>simp
 | un _ ih=>simp only [X.depth];omega
 | bin1 _ ih=>simp only [X.depth];omega
 | bin2 _ ih=>simp only [X.depth];omega
 | ite1 _ ih=>simp only [X.depth];omega
 | ite2 _ ih=>simp only [X.depth];omega
 | ite3 _ ih=>simp only [X.depth];omega
theorem Sub.at {x y:X} {b:Nat} (h:Sub x y b):∀ {l:List XN} {k:Nat},At l x k→At l y (k+b):=by
 induction h with
 | refl=>exact id
 | un _ ih=>intro l k h;exact ih h.un
 | bin1 _ ih=>intro l k h;exact ih h.bin.1
 | bin2 _ ih=>intro l k h;rw [← Nat.add_assoc];exact ih h.bin.2
 | ite1 _ ih=>intro l k h;exact ih h.ite.1
 | ite2 _ ih=>intro l k h;rw [← Nat.add_assoc];exact ih h.ite.2.1
 | ite3 _ ih=>intro l k h;rw [← Nat.add_assoc,← Nat.add_assoc];exact ih h.ite.2.2
theorem Zl3 (x:X):(Zmc x)[x.size-1]? = some x:=by
 have:∃ l,Zmc x=l++[x]:=by
  cases x with
  | leaf=>exact ⟨[],rfl⟩
  | un=>exact ⟨_,rfl⟩
  | bin=>exact ⟨_,rfl⟩
  | ite=>exact ⟨_,rfl⟩
 obtain ⟨l,h⟩:=this;have hl:=Zvb x;rw [h,List.length_append,List.length_singleton] at hl;rw [h,List.getElem?_append_right (by omega),show x.size-1-l.length=0 by omega];rfl
theorem Sub.get {x y:X} {b:Nat} (h:Sub x y b):(Zmc x)[b+y.size-1]? = some y:=by
 have hy:=y.size_pos
 induction h with
 | refl x=>rw [Nat.zero_add];exact Zl3 x
 | @un op a y b h ih =>
  have:=h.size;have hl:=Zvb a;rw [Zmc,List.getElem?_append_left (by omega)];exact ih hy
 | @bin1 op a c y b h ih =>
  have:=h.size;have hl:=Zvb a;rw [Zmc,List.append_assoc,List.getElem?_append_left (by omega)];exact ih hy
 | @bin2 op a c y b h ih =>
  have:=h.size;have hl:=Zvb a;have hl2:=Zvb c;rw [Zmc,List.append_assoc,List.getElem?_append_right (by omega),List.getElem?_append_left (by omega),← ih hy]
  congr 1;omega
 | @ite1 a c d y b h ih =>
  have:=h.size;have hl:=Zvb a;rw [Zmc,List.append_assoc,List.append_assoc,List.getElem?_append_left (by omega)];exact ih hy
 | @ite2 a c d y b h ih =>
  have:=h.size;have hl:=Zvb a;have hl2:=Zvb c;rw [Zmc,List.append_assoc,List.append_assoc,List.getElem?_append_right (by omega),List.getElem?_append_left (by omega),← ih hy]
  congr 1;omega
 | @ite3 a c d y b h ih =>
  have:=h.size;have hl:=Zvb a;have hl2:=Zvb c;have hl3:=Zvb d;rw [Zmc,List.append_assoc,List.append_assoc,List.getElem?_append_right (by omega),List.getElem?_append_right (by omega),List.getElem?_append_left (by omega),← ih hy]
  congr 1;omega
theorem Zmk:∀ (x:X) (i:Nat),i<x.size→∃ y b,Sub x y b∧b+y.size=i+1
 | .leaf op num name,i,h=>⟨_,0,.refl _,by simp only [X.size] at h ⊢;omega⟩
 | .un op a,i,h=>by
  by_cases h1:i<a.size
  ·obtain ⟨y,b,h2,h3⟩:=Zmk a i h1
   exact ⟨y,b,.un h2,h3⟩
  ·exact ⟨_,0,.refl _,by simp only [X.size] at h ⊢;omega⟩
 | .bin op a c,i,h=>by
  by_cases h1:i<a.size
  ·obtain ⟨y,b,h2,h3⟩:=Zmk a i h1
   exact ⟨y,b,.bin1 h2,h3⟩
  by_cases h1':i-a.size<c.size
  ·obtain ⟨y,b,h2,h3⟩:=Zmk c (i-a.size) h1'
   exact ⟨y,_,.bin2 h2,by omega⟩
  ·exact ⟨_,0,.refl _,by simp only [X.size] at h ⊢;omega⟩
 | .ite a c d,i,h=>by
  by_cases h1:i<a.size
  ·obtain ⟨y,b,h2,h3⟩:=Zmk a i h1
   exact ⟨y,b,.ite1 h2,h3⟩
  by_cases h1':i-a.size<c.size
  ·obtain ⟨y,b,h2,h3⟩:=Zmk c (i-a.size) h1'
   exact ⟨y,_,.ite2 h2,by omega⟩
  by_cases h1'':i-a.size-c.size<d.size
  ·obtain ⟨y,b,h2,h3⟩:=Zmk d (i-a.size-c.size) h1''
   exact ⟨y,_,.ite3 h2,by omega⟩
  ·exact ⟨_,0,.refl _,by simp only [X.size] at h ⊢;omega⟩
theorem Sub.top {x y:X} {b:Nat} (h:Sub x y b):(x.row 0)[b+y.size-1]? = some (y.top b):=by
 have:=(h.at (Z9h x)).get;rw [Nat.zero_add] at this;exact this
theorem Z27 (x:X) (i:Nat) (h:i<x.size):∃ y b,Sub x y b∧b+y.size=i+1∧(Zmc x)[i]? = some y∧(x.row 0)[i]? = some (y.top b):=by
 obtain ⟨y,b,h1,h2⟩:=Zmk x i h
 have e:i=b+y.size-1:=by omega
 exact ⟨y,b,h1,h2,e ▸ h1.get,e ▸ h1.top⟩
def kd (op:Int) (named:Bool) (a b c:Int):Int :=
 if op=1∨op=2∧named=true then 1
 else if op=3∨op=4 then 2
 else if op=5∧a=1∨7≤op∧op≤11∧a=1∧b=1 then 1
 else if 12≤op∧op≤15∧a=1∧b=1∨(op=16∨op=17)∧a=b∧a≠0 then 2
 else if op=6∧a=2∨18≤op∧op≤21∧a=2∧b=2 then 2
 else if op=22∧a=2∧b=c then b else 0
theorem Z8l {op:Int} {nm:Bool} {a b c:Int} (hb:0≤b∧b≤2):0≤kd op nm a b c∧kd op nm a b c≤2:=by
 unfold kd
 repeat' split
 all_goals omega
def Z5b (names:List (List UInt8)):X→Int
 | .leaf op _ name=>kd op (names.contains name) 0 0 0
 | .un op a=>kd op (names.contains []) (Z5b names a) 0 0
 | .bin op a b=>kd op (names.contains []) (Z5b names a) (Z5b names b) 0
 | .ite a b c=>kd 22 (names.contains []) (Z5b names a) (Z5b names b) (Z5b names c)
theorem Zwk (names:List (List UInt8)):∀ x,0≤Z5b names x∧Z5b names x≤2
 | .leaf .. => Z8l (by decide)
 | .un .. => Z8l (by decide)
 | .bin _ a b=>Z8l (Zwk names b)
 | .ite a b c=>Z8l (Zwk names b)
def goX (names:List (List UInt8)):List X→Int→List Int→List Int × Int × Int
 | [],_,acc=>(acc,0,0)
 | y::r,i,acc=>if Z5b names y=0 then ([],i,90) else goX names r (i+1) (acc++[Z5b names y])
def plc (ks:List Int) (i:Int):Int:=if i<0 then 0 else ks.getD i.toNat 0
def Z7l (names:List (List UInt8)) (n:XN) (ks:List Int):Int:=kd n.op (names.contains n.name) (plc ks n.a) (plc ks n.b) (plc ks n.c)
def goN (names:List (List UInt8)):List XN→Int→List Int→List Int × Int × Int
 | [],_,acc=>(acc,0,0)
 | n::r,i,acc=>if Z7l names n acc=0 then ([],i,90) else goN names r (i+1) (acc++[Z7l names n acc])
theorem Zq1 (ks:List Int):plc ks (-1)=0:=rfl
theorem Z1m {names:List (List UInt8)} {x y:X} {b i:Nat} (h:Sub x y b) (hi:b+y.size≤i):plc (((Zmc x).take i).map (Z5b names)) ((b:Int)+y.size-1)=Z5b names y:=by
 have hp:=y.size_pos;unfold plc;rw [if_neg (by omega),show ((b:Int)+y.size-1).toNat=b+y.size-1 by omega];rw [List.getD_eq_getElem?_getD,List.getElem?_map,List.getElem?_take,if_pos (by omega),h.get];rfl
theorem Zw9 {names:List (List UInt8)} {x y:X} {b i:Nat} (h:Sub x y b) (hi:b+y.size=i+1):Z7l names (y.top b) (((Zmc x).take i).map (Z5b names))=Z5b names y:=by
 cases y with
 | leaf op num name=>rfl
 | un op a =>
  have h1:Sub x a b:=h.trans (.un (.refl a));simp only [X.size] at hi;simp only [Z7l,X.top,Zq1,Z5b];rw [Z1m h1 (by omega)]
 | bin op a c =>
  have h1:Sub x a b:=h.trans (.bin1 (.refl a));have h2:Sub x c (b+(a.size+0)):=h.trans (.bin2 (.refl c));rw [Nat.add_zero] at h2;simp only [X.size] at hi;simp only [Z7l,X.top,Zq1,Z5b];have:=Z1m (names:=names) h2 (i:=i) (by omega);rw [show ((b+a.size:Nat):Int)+c.size-1=(b:Int)+a.size+c.size-1 by omega] at this;rw [Z1m h1 (by omega),this]
 | ite a c d =>
  have h1:Sub x a b:=h.trans (.ite1 (.refl a));have h2:Sub x c (b+(a.size+0)):=h.trans (.ite2 (.refl c));have h3:Sub x d (b+(a.size+c.size+0)):=h.trans (.ite3 (.refl d));rw [Nat.add_zero] at h2 h3;simp only [X.size] at hi;simp only [Z7l,X.top,Zq1,Z5b];have q2:=Z1m (names:=names) h2 (i:=i) (by omega);rw [show ((b+a.size:Nat):Int)+c.size-1=(b:Int)+a.size+c.size-1 by omega] at q2;have q3:=Z1m (names:=names) h3 (i:=i) (by omega);rw [show ((b+(a.size+c.size):Nat):Int)+d.size-1=(b:Int)+a.size+c.size+d.size-1 by omega] at q3;rw [Z1m h1 (by omega),q2,q3]
theorem Z29 {names:List (List UInt8)} (x:X):∀ (m i:Nat),i+m=x.size→goN names ((x.row 0).drop i) i (((Zmc x).take i).map (Z5b names))=goX names ((Zmc x).drop i) i (((Zmc x).take i).map (Z5b names))
 | 0,i,h=>by
  rw [List.drop_of_length_le (by rw [X.row_len];omega),List.drop_of_length_le (by rw [Zvb];omega)];rfl
 | m+1,i,h=>by
  obtain ⟨y,b,h1,h2,h3,h4⟩:=Z27 x i (by omega);obtain ⟨q1,e1⟩:=List.getElem?_eq_some_iff.1 h3;obtain ⟨q2,e2⟩:=List.getElem?_eq_some_iff.1 h4;rw [List.drop_eq_getElem_cons q2,List.drop_eq_getElem_cons q1,e1,e2,goN,goX,Zw9 h1 h2];have ih:=Z29 (names:=names) x m (i+1) (by omega)
  have ht:((Zmc x).take (i+1)).map (Z5b names)=((Zmc x).take i).map (Z5b names)++[Z5b names y]:=by
   rw [List.take_add_one,h3];simp
  rw [ht] at ih
  split
  ·rfl
  ·exact ih
def PlOk (k:Nat) (n:XN):Prop:=Zod n=true∧(0<Zw n.op→0≤n.a∧n.a<k)∧(1<Zw n.op→0≤n.b∧n.b<k)∧(2<Zw n.op→0≤n.c∧n.c<k) ∧
 (¬ 0<Zw n.op→n.a = -1)∧(¬ 1<Zw n.op→n.b = -1)∧(¬ 2<Zw n.op→n.c = -1)
theorem Ztca {x y:X} {b i:Nat} (hx:x.ok=true) (h:Sub x y b) (hi:b+y.size=i+1):PlOk i (y.top b):=by
 have hy:=h.ok hx
 cases y with
 | leaf op num name =>
  simp only [X.ok,Bool.and_eq_true,decide_eq_true_eq] at hy
  have hp:Zw op=0:=by unfold Zw;rw [if_pos hy.2]
  refine ⟨hy.1,?_⟩;simp only [X.top,hp];exact ⟨fun h=>absurd h (by decide),fun h=>absurd h (by decide),fun h=>absurd h (by decide),fun _=>trivial,fun _=>trivial,fun _=>trivial⟩
 | un op a =>
  simp only [X.ok,Bool.and_eq_true,decide_eq_true_eq] at hy
  have hp:Zw op=1:=by unfold Zw;rw [if_neg (by omega),if_pos (by omega)]
  have hs:=a.size_pos;simp only [X.size] at hi;refine ⟨Zqh (by omega) _ _ _,?_⟩;simp only [X.top,hp];exact ⟨fun _=>by omega,fun h=>absurd h (by decide),fun h=>absurd h (by decide),fun h=>absurd (by decide) h,fun _=>trivial,fun _=>trivial⟩
 | bin op a c =>
  simp only [X.ok,Bool.and_eq_true,decide_eq_true_eq] at hy
  have hp:Zw op=2:=by unfold Zw;rw [if_neg (by omega),if_neg (by omega),if_pos (by omega)]
  have hs:=a.size_pos;have hs2:=c.size_pos;simp only [X.size] at hi;refine ⟨Zqh (by omega) _ _ _,?_⟩;simp only [X.top,hp];exact ⟨fun _=>by omega,fun _=>by omega,fun h=>absurd h (by decide),fun h=>absurd (by decide) h,fun h=>absurd (by decide) h,fun _=>trivial⟩
 | ite a c d =>
  have hp:Zw 22=3:=by decide
  have hs:=a.size_pos;have hs2:=c.size_pos;have hs3:=d.size_pos;simp only [X.size] at hi;refine ⟨Zqh (by decide) _ _ _,?_⟩;simp only [X.top,hp];exact ⟨fun _=>by omega,fun _=>by omega,fun _=>by omega,fun h=>absurd (by decide) h,fun h=>absurd (by decide) h,fun h=>absurd (by decide) h⟩
theorem Zuca {l:List XN} (h:Znb l≠0) {i:Nat} {n:XN} (hg:l[i]? = some n):PlOk i n:=by
 obtain ⟨x,hx,rfl⟩:=Zin h
 have hi:i<x.size:=by rw [← X.row_len x 0];exact (List.getElem?_eq_some_iff.1 hg).1
 obtain ⟨y,b,h1,h2,h3,h4⟩:=Z27 x i hi;rw [h4] at hg;cases hg;exact Ztca hx h1 h2
end Go.Hs
end

section
namespace Go.Hs
open Go.Proofs
set_option maxRecDepth 10000
def ruleC:List V := .int .u8 0 :: .int .u8 0 :: .int .u8 0 :: .int .u8 0 :: .int .u8 0 :: .int .u8 0 :: .int .u8 0 :: .int .u8 1 :: .int .u8 0 :: .int .u8 0 :: .int .u8 0 :: .int .u8 1 :: .int .u8 0 :: .int .u8 0 :: .int .u8 0 :: .int .u8 2 :: .int .u8 0 :: .int .u8 0 :: .int .u8 0 :: .int .u8 2 :: .int .u8 1 :: .int .u8 0 :: .int .u8 0 :: .int .u8 1 :: .int .u8 2 :: .int .u8 0 :: .int .u8 0 :: .int .u8 2 :: .int .u8 1 :: .int .u8 1 :: .int .u8 0 :: .int .u8 1 :: .int .u8 1 :: .int .u8 1 :: .int .u8 0 :: .int .u8 1 :: .int .u8 1 :: .int .u8 1 :: .int .u8 0 :: .int .u8 1 :: .int .u8 1 :: .int .u8 1 :: .int .u8 0 :: .int .u8 1 :: .int .u8 1 :: .int .u8 1 :: .int .u8 0 :: .int .u8 1 :: .int .u8 1 :: .int .u8 1 :: .int .u8 0 :: .int .u8 2 :: .int .u8 1 :: .int .u8 1 :: .int .u8 0 :: .int .u8 2 :: .int .u8 1 :: .int .u8 1 :: .int .u8 0 :: .int .u8 2 :: .int .u8 1 :: .int .u8 1 :: .int .u8 0 :: .int .u8 2 :: .int .u8 3 :: .int .u8 3 :: .int .u8 0 :: .int .u8 2 :: .int .u8 3 :: .int .u8 3 :: .int .u8 0 :: .int .u8 2 :: .int .u8 2 :: .int .u8 2 :: .int .u8 0 :: .int .u8 2 :: .int .u8 2 :: .int .u8 2 :: .int .u8 0 :: .int .u8 2 :: .int .u8 2 :: .int .u8 2 :: .int .u8 0 :: .int .u8 2 :: .int .u8 2 :: .int .u8 2 :: .int .u8 0 :: .int .u8 2 :: .int .u8 2 :: .int .u8 3 :: .int .u8 3 :: .int .u8 3::[]
def Zi1 (op:Nat):Int:=if op≤4 then 0 else if op=5∨(7≤op∧op≤15) then 1 else if op=16∨op=17 then 3 else 2
def Zj8 (op:Nat):Int:=if op≤6 then 0 else if op≤15 then 1 else if op≤17∨op=22 then 3 else 2
def Zg1 (op:Nat):Int:=if op=22 then 3 else 0
def Zkca (op:Nat):Int:=if op=0 then 0 else if op≤2 then 1 else if op=22 then 3 else if op=5∨(7≤op∧op≤11) then 1 else 2
theorem Zi8 (op:Nat) (h:op<23):(ruleC.drop (op * 4)).take 4=[.int .u8 (Zi1 op),.int .u8 (Zj8 op),.int .u8 (Zg1 op),.int .u8 (Zkca op)]:=by
 match op,h with
 | 0,_=>rfl
 | 1,_=>rfl
 | 2,_=>rfl
 | 3,_=>rfl
 | 4,_=>rfl
 | 5,_=>rfl
 | 6,_=>rfl
 | 7,_=>rfl
 | 8,_=>rfl
 | 9,_=>rfl
 | 10,_=>rfl
 | 11,_=>rfl
 | 12,_=>rfl
 | 13,_=>rfl
 | 14,_=>rfl
 | 15,_=>rfl
 | 16,_=>rfl
 | 17,_=>rfl
 | 18,_=>rfl
 | 19,_=>rfl
 | 20,_=>rfl
 | 21,_=>rfl
 | 22,_=>rfl
 | n+23,h=>omega
theorem Z80 (G:Nat→V) (hG:GOk G):Spec Tryz.prog G 79 [] Zm (fun v _=>v = .agg ruleC):=by
 refine Zo 0 39 [.cell 0 176] Tryz.func79 fun X=>?_;refine Z1 ?_;intro g0;refine Z1 ?_;intro g1 g2;refine Z1 ?_;intro g3 g4;exact Zr
theorem Zrx (G:Nat→V) (hG:GOk G) (c:Col) (t:List UInt8) (s:Sl (List UInt8)) (hs:s.l.length<1000000) :
  Spec Tryz.prog G 88 [Za c 1 V.str s,.str t] Zm (fun v _=>∃ i:Int,v = .int .i64 i∧decide (i≥0)=s.l.contains t):=by
 refine Zo 0 19 [.tmp 4] Tryz.func88 fun X=>?_;refine Z1 ?_;refine Z1 ?_;refine AW.block ?_
 refine Zwa s.l.length (fun k (_:Unit)=>st [(0,Za c 1 V.str s),(1,.str t),(7,.int .i64 s.l.length),(8,.int .i64 k)] []) (fun k _=>(s.l.take k).contains t=false) 0 () (Nat.zero_le _) rfl
  (Zb zp zp) ?_
 intro k _ hk hR L2 hL2;refine Z1 ?_;refine Z5 ?_;refine Ze rfl (fun h4=>?_) (fun h4=>?_)
 ·have hk1:k<s.l.length:=by simpa using h4
  have hg:=List.getElem?_eq_getElem hk1
  have htk:s.l.take (k+1)=s.l.take k++[s.l[k]]:=by rw [List.take_succ_eq_append_getElem hk1]
  have hmem:=List.getElem_mem hk1;generalize s.l[k]=x at hg htk hmem;refine Z1 ?_;refine Z1f hg ?_;refine Ze rfl (fun h6=>?_) (fun h6=>?_)
  ·have h6:t=x:=by simpa using h6
   refine Z ?_
   have:s.l.contains t=true:=by rw [h6];simpa using hmem
   rw [this];exact ⟨_,rfl,by rw [decide_eq_true_iff];omega⟩
  ·have h6:¬ t=x:=by simpa using h6
   refine Z1 ?_;refine hL2 _ ⟨hk1,(),?_,Zb zw zp⟩;rw [htk];simp only [List.contains_eq_mem,decide_eq_false_iff_not] at hR ⊢;intro hm
   rcases List.mem_append.1 hm with h | h
   ·exact hR h
   ·exact h6 (List.mem_singleton.1 h)
 ·have hk1:k=s.l.length:=by simp at h4;omega
  refine Z ?_;rw [hk1,List.take_length] at hR;rw [hR];exact ⟨_,rfl,rfl⟩
theorem Zbk (G:Nat→V) (hG:GOk G) (c:Col) (t:List UInt8) (s:Sl (List UInt8)) (hs:s.l.length<1000000) :
  Spec Tryz.prog G 62 [Za c 1 V.str s,.str t] Zm (fun v _=>v = .bool (s.l.contains t)):=by
 refine Zo 0 9 [.tmp 4] Tryz.func62 fun X=>?_;refine Z1 ?_;refine Z1 ?_;refine CallA.pure hG zk ?_;refine Zs ?_;refine (Zrx G hG _ t s hs).mono ?_;rintro _ _ ⟨i,rfl,hi⟩;refine Zs ?_;refine Z ?_;rw [hi]
theorem Z8ba (G:Nat→V) (hG:GOk G) (c:Col) (s:Sl Int) (hs:s.l.length<1000000) (i:Int) (hi:i<0∨0≤i∧i<s.l.length) :
  Spec Tryz.prog G 119 [.int .i64 i,.view .old (Za c 1 (V.int .u8) s)] Zm (fun v _=>v = .int .u8 (plc s.l i)):=by
 refine Zo 0 10 [.tmp 3] Tryz.func119 fun X=>?_
 have hP:plc s.l i=if i<0 then 0 else s.l.getD i.toNat 0:=rfl
 generalize plc s.l i=res at hP ⊢;refine Z1 ?_;refine Z1 ?_;refine Ze rfl (fun h2=>?_) (fun h2=>?_)
 ·have h2:i<0:=by simpa using h2
  rw [if_pos h2] at hP;refine Z ?_;rw [hP]
 ·have h2:¬ i<0:=by simpa using h2
  rw [if_neg h2] at hP;obtain ⟨m,rfl⟩:∃ m:Nat,i=m:=⟨i.toNat,by omega⟩
  have hm:m<s.l.length:=by omega
  have hg:=List.getElem?_eq_getElem hm
  have hgd:s.l.getD ((m:Nat):Int).toNat 0=s.l[m]:=by rw [Int.toNat_natCast,List.getD_eq_getElem?_getD,hg]<;>rfl
  rw [hgd] at hP;generalize s.l[m]=x at hg hP;refine Zf hg ?_;rw [hP]
end Go.Hs
end
