/- A part. No condition. -/
import Derived.Test.YtjplgaebbfabnaaGreatDoorP24
import Derived.Carry
import Derived.ChangeArms
import Derived.DataReads
import Derived.Test.YtjplgaebbfabnaaGreatDoorP25
set_option linter.all false
namespace Go.Hs
section
variable{P:Program}{W:World}
def Wj(W:World):Cx:={ β := λ_ _=>none,S:=λb i=>(W.cell? ⟨b,i,none⟩).isSome=true,base:=W.heap.size,w:=W }
theorem Z6x(W:World):Inv (Wj W) Zj:=by
 have lt:∀ {b i:Nat},(Wj W).S b i->b<W.heap.size:=by
  intro b i a;have a:(W.cell? ⟨b,i,none⟩).isSome=true:=a;rw[Option.isSome_iff_exists]at a;obtain⟨v,d⟩:=a;exact World.block_lt_of_cell? _ _ d
 refine⟨λo c g f j h=>(by simp[Zj]at h),λp B x z t n A w y s b m l h=>(by simp[Zj]at h),λb i a=>⟨?_,λo c g f j C h=>(by simp[Zj]at h)⟩,λo=>⟨0,λ_ _=>rfl⟩,Nat.le_refl _,λb i a e=>absurd (lt a) (Nat.not_lt.2 e),.no λo q b u k h=>(by simp[Zj]at h),.no λo b r h=>(by simp[Zj]at h)⟩;have a:(W.cell? ⟨b,i,none⟩).isSome=true:=a;rw[Option.isSome_iff_exists]at a;obtain⟨v,d⟩:=a;exact World.block_lt_of_cell? _ _ d
theorem Zzc{α : Type}{p:Nat -> α -> Prop}:∀ n:Nat,(∀ i,i<n->∃ a,p i a)->∃ l:List α,l.length=n/\∀ i a,l[i]?=some a->p i a
 |0,_=>⟨[],rfl,λi a h=>by grind⟩
 |n+1,h=>by
  obtain⟨l,d,c⟩:=Zzc n λi e=>h i zo;obtain⟨a,g⟩:=h n zo;refine⟨l++[a],by grind,λi b f=>?_⟩
  grind
def Reads(P:Program)(W:World){α : Type}(t:TypeId)(m:Nat)(f : α -> List V):Prop:=
 P.cellsOf t=m/\(∀ a,(f a).length=m)/\∀ {H:Type} (enc:TypeId×Value->H) (held:Bool) (fuel:Nat) (cs:List Value) (x:DataW H×List MemPlace),
  DataW.trod enc P W 0 (λ_=>true) held fuel t cs=some x->∃ a,RelC (Wj W) cs (f a)
theorem Reads.int{t:TypeId}{k:IntKind}(c:P.underlying t=some (.int k))(d:P.cellsOf t=1):Reads P W t 1 (λn=>[V.int k n]):=by
 refine⟨d,λ_=>rfl,λenc a b e x h=>?_⟩;obtain⟨n,rfl,_,_⟩:=DataW.trod_int c h;exact⟨n,Us rfl (.int _ _) RelC.nil⟩
theorem Reads.slice{α : Type}{t e:TypeId}{m:Nat}{f : α -> V}(ht:P.underlying t=some (.slice e))(hc:P.cellsOf t=1)(hm:0<m)(he:Reads P W e m (λa=>(f a).cells)):Reads P W t 1 (λs:Sl α => [Za .any m f s]):=by
 refine⟨hc,λ_=>rfl,λenc A fuel cs x h=>?_⟩;obtain⟨R,u,N⟩:=he
 rcases DataW.trod_slice ht h with ⟨rfl,_⟩|⟨a,len,C,T,rest,n,_,rfl,_,_,hl,_,hel,r,L,_⟩
 exact⟨.nil,Us rfl .nils RelC.nil⟩;obtain⟨hrl,q⟩:=L rfl;rw[R]at r q
 have B:0<C->a.spot=none:=by
  intro J
  have K:∀ j (o:Option (DataW _×List MemPlace)),j=0->(W.cells? 0 (a.add (j*m)) m).bind (DataW.trod enc P W 0 (λ_=>true) A n e)=o->o.isSome=true->a.spot=none:=by
   intro j o O hj Y;subst O;rw[Nat.zero_mul]at hj;rw[Option.isSome_iff_exists]at Y;obtain⟨y,rfl⟩:=Y;obtain⟨d,c,_⟩:=Option.bind_eq_some_iff.1 hj;obtain⟨_,z,D⟩:=World.cells?_some c;have I:=D 0 hm;rw[List.getElem?_eq_getElem zo]at I;exact World.cell?_spot I
  rcases Nat.eq_zero_or_pos len with c|c
  have z:=q 0 zo;exact K _ _ zo z (by grind)
  grind
 rcases Nat.eq_zero_or_pos C with J|J
 have c:len=0:=zo;subst J c;exact⟨.mk false [],Us rfl (.slice0 _ _ _ a) RelC.nil⟩;have M:=B J;obtain⟨b,k,sp⟩:=a;have M:sp=none:=M;subst M
 obtain⟨l,E,hp⟩:=Zzc (p:=λi (a : α)=>∃ d,W.cells? 0 (Addr.add ⟨b,k,none⟩ (i*m)) m=some d/\RelC (Wj W) d (f a).cells) len (by
  intro i w;have c:=r i w;rw[List.getElem?_eq_getElem zo]at c;obtain⟨d,z,D⟩:=Option.bind_eq_some_iff.1 c;obtain⟨a,ha⟩:=N enc A n d _ D
  exact⟨a,d,z,ha⟩)
 refine⟨.mk false l,Us rfl ?_ RelC.nil⟩
 have S:∀ v∈l.map f,v.cells.length=m:=by
  intro v hv;obtain⟨a,_,rfl⟩:=List.mem_map.1 hv;exact u a
 have F:=V8 S;rw[List.length_map]at F
 have g:∀ i (w:i<(flat (l.map f)).length),∃ y,W.cell? ⟨b,k+i,none⟩=some y/\y.oneCell'=true/\Rel (Wj W) y (flat (l.map f))[i]:=by
  intro i w
  have Q:i<l.length*m:=by rw[<- F];exact w
  have U:i/m<l.length:=Nat.div_lt_of_lt_mul (by rw[Nat.mul_comm];exact Q);have H:i%m<m:=Nat.mod_lt _ hm
  have G:i/m*m+i%m=i:=by rw[Nat.mul_comm];exact Nat.div_add_mod i m
  obtain⟨d,c,z⟩:=hp (i/m) _ (List.getElem?_eq_getElem U);obtain⟨_,D,I⟩:=World.cells?_some c;have h5:=I (i%m) H;rw[List.getElem?_eq_getElem zo]at h5;have h6:=z.rel (i%m) zo (by rw[u];exact H);have h7:=Ih S (i/m) (i%m) (by rw[List.length_map];exact U) H;rw[G,List.getElem?_eq_getElem w,List.getElem_map,List.getElem?_eq_getElem (by rw[u];exact H)]at h7;have h8:=Option.some.inj h7;refine⟨_,?_,z.one _ (List.getElem_mem _),by rw[h8];exact h6⟩;rw[<- h5,Addr.add_lit,Addr.add_lit,Nat.add_assoc,G]
 have:=Rel.slice (X:=Wj W) .any false m (l.map f) b k C (λi=>(W.cell? ⟨b,k+i,none⟩).getD undef) (by rw[List.length_map,E];exact hl) zS S
  (λi w=>by
   obtain⟨y,c,z,_⟩:=g i w;refine⟨by show(W.cell? ⟨b,k+i,none⟩).isSome=true;rw[c];rfl,trivial,?_,by simp only[c,Option.getD_some];exact z⟩
   show W.cell? ⟨b,k+i,none⟩=_
   rw[c];rfl)
  (λi w=>by
   obtain⟨y,c,_,D⟩:=g i w;simp only[c,Option.getD_some]
   exact D)
 rw[List.length_map,E]at this;exact this
end
section
variable{P:Program}{E:Ent}
theorem Rel.ofW_old{W:World}{x:Value}{v:V}(h:Rel (Wj W) x v):Rel (Wj W) x (v.recol λ_=>.old):=
 h.conv (X:=Wj W) (Y:=Wj W) (λ_=>.old) (λ_ _ h=>h) (λ_ _ _ _ h=>h) ⟨λ_ c _ h=>⟨c,h,rfl⟩,λ_ _ _ _ h=>h⟩ (λ_ b a _=>a) (.inl λ_ _ _ h=>h)
end
end Go.Hs
