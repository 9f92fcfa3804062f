/- A part. No condition. -/
import Derived.Test.YtjplgaebbfabnaaGreatDoorP2
import Derived.Lib.Strings
set_option linter.all false
namespace Go.Hs
section
variable{P:Program}{X:Cx}{w:World}
theorem Rel.cells1{x:Value}{v:V}(h:Rel X x v)(a:x.oneCell'=true):v.cells=[v]:=by
 cases h<;>simp_all [V.cells,Value.oneCell']
theorem Z7i{t:TypeId}{xs:Array Value}{l:List V}{off:Nat}{v:V}(h:Rel X (.agg xs) (.agg l))(a:Pr P t l off=some v):
  ∃ c,(part t xs off).run P w=.ok c w/\Rel X c v:=by
 cases h with
 |agg _ _ hx ho hr=>
 unfold Pr at a
 cases e:S0 P t with
 |none=>grind
 |some b=>
  cases g:Yw P t with
  |none=>grind
  |some n=>
   cases b with
   |true=>
    simp only[e,g]at a
    split at a
    simp at a;subst a;refine⟨.agg (xs.extract off (off+n)),by simp[part,Qs e,Y0 g],.agg _ _ ?_ ?_ ?_⟩
    grind
    intro x f;obtain⟨i,m,rfl⟩:=Array.getElem_of_mem f;rw[Array.getElem_extract];exact ho _ (Array.getElem_mem _);intro i j k;rw[Array.getElem_extract,List.getElem_take,List.getElem_drop];exact hr _ (by simp at j;omega) (by simp at k;omega);simp at a
   |false=>
    simp only[e,g]at a
    split at a
    rename_i j k;simp at j;rw[List.getElem?_eq_some_iff]at a;obtain⟨d,rfl⟩:=a
    have:xs[off]?=some (xs[off]'zo):=by simp[hx,d]
    exact⟨xs[off]'zo,by simp[part,Qs e,this],hr _ zo d⟩;simp at a
def Zft(P:Program)(t:TypeId)(a:V)(f:Nat):Option V:=
 match P.underlying t,a with
 |some (.struct fs),.agg l=>match fs[f]? with
  |some fd=>Pr P fd.type l fd.offset
  |none=>none
 |_,_=>none
theorem Zet{t:TypeId}{a v:V}{x:Value}{f:Nat}(b:Rel X x a)(h:Zft P t a f=some v):∃ c,(Instr.field t x f).run P w=.ok c w/\Rel X c v:=by
 unfold Zft at h
 split at h
 rename_i i l d
 split at h
 .rename_i fd hf
  cases b with
  |agg xs _ h1 h2 h3=>
   obtain⟨c,g,e⟩:=Z7i (w:=w) (.agg xs l h1 h2 h3) h;exact⟨c,by simp[Instr.field,Zk d,hf,asAgg,g],e⟩
 grind
 grind
theorem Zea{t:TypeId}{l:List V}{v:V}{c:Col}{b off o n:Nat}(h:Rel X (.pointer (some ⟨b,off,none⟩)) (.view c (.agg l)))(g:Pr P t l o=some v)(j:Yw P t=some n):
  Rel X (.pointer (some ⟨b,off+o,none⟩)) (.view c v):=by
 cases h with
 |view _ _ _ _ f hc hr=>
 simp only[V.cells]at hc hr
 have a:∀ x∈l,x.cells=[x]:=by
  intro x e;obtain⟨i,d,rfl⟩:=List.getElem_of_mem e;exact(hr i d).cells1 (hc i d).2.2.2
 obtain⟨p,m,k⟩:=Z8i g j a;refine .view c v b (off+o) (λi=>f (o+i)) ?_ ?_
 grind
 grind
def Sd(P:Program)(t:TypeId)(a:V)(f:Nat):Option V:=
 match P.underlying t with
 |some (.struct fs)=>match fs[f]? with
  |some fd=>match Yw P fd.type with
   |some (_+1)=>match a with
    |.ptr o g off=>some (.ptr o g (off+fd.offset))
    |.view c (.agg l)=>(Pr P fd.type l fd.offset).map (.view c)
    |_=>none
   |_=>none
  |none=>none
 |_=>none
theorem Ba{t:TypeId}{a v:V}{x:Value}{f:Nat}(i:Rel X x a)(h:Sd P t a f=some v):∃ c,(Instr.fieldAt t x f).run P w=.ok c w/\Rel X c v:=by
 unfold Sd at h
 split at h
 rename_i q k
 split at h
 rename_i p m
 split at h
 rename_i n j
 have d:∀ b off,(Instr.fieldAt t (.pointer (some ⟨b,off,none⟩)) f).run P w=.ok (.pointer (some ⟨b,off+p.offset,none⟩)) w:=by
  simp[Instr.fieldAt,Zk k,m,Instr.sureAddr,fieldPlace,Y0 j,Addr.add_lit]
 split at h
 .simp at h;subst h
  cases i with
  |ptr o g off b bs hβ => exact⟨_,d _ _,by rw[Nat.add_assoc];exact .ptr _ _ _ _ _ hβ⟩
 .rename_i c l
  simp only[Option.map_eq_some_iff]at h;obtain⟨u,e,rfl⟩:=h
  cases i with
  |view _ _ b off fn hc hr=>
   exact⟨_,d _ _,Zea (.view c _ b off fn hc hr) e j⟩
 simp at h;simp at h;simp at h;simp at h
theorem V8{E:Nat}:∀ {l:List V},(∀ v∈l,v.cells.length=E)->(flat l).length=l.length*E
 |[],_=>by simp[flat]
 |v::r,h=>by
  have b:=V8 (E:=E) (l:=r) (λx a=>h x (List.mem_cons_of_mem _ a));have c:=h v (List.mem_cons_self ..);unfold flat at *
  grind
theorem Ih{E:Nat}:∀ {l:List V},(∀ v∈l,v.cells.length=E)->∀ (n j:Nat) (hn:n<l.length),j<E->(flat l)[n*E+j]?=(l[n]).cells[j]?
 |[],_,n,j,hn,_=>by grind
 |v::r,h,n,j,hn,hj=>by
  have d:=h v (List.mem_cons_self ..);have b:∀ x∈r,x.cells.length=E:=λx a=>h x (List.mem_cons_of_mem _ a)
  have e:flat (v::r)=v.cells++flat r:=by rfl
  rw[e]
  cases n with
  |zero=>
   simp only[Nat.zero_mul,Nat.zero_add,List.getElem_cons_zero]
   grind
  |succ n=>
   have c:=Ih b n j (by grind) hj
   grind
def Wx(P:Program)(t:TypeId)(a i:V):Option V:=
 match P.underlying t,i with
 |some (.slice e),.int _ n=>match a with
  |.slice c _ E l=>if Yw P e=some E/\0<=n then(l[n.toNat]?).map (.view c)else none
  |.msl o g off len E=>if Yw P e=some E/\0<=n/\n<len then some (.ptr o g (off+n.toNat*E))else none
  |_=>none
 |some (.array N e),.int _ n=>match a,Yw P e with
  |.ptr o g off,some m=>if 0<=n/\n<N then some (.ptr o g (off+n.toNat*m))else none
  |.view c (.agg l),some m=>if 0<=n/\n<N then(Pr P e l (n.toNat*m)).map (.view c)else none
  |_,_=>none
 |_,_=>none
theorem Zty{c:Col}{d:Bool}{E:Nat}{l:List V}{b off n:Nat}{len cap:Nat}{v:V}(h:Rel X (.slice (some ⟨b,off,none⟩) len cap) (.slice c d E l))(j:l[n]?=some v):
  Rel X (.pointer (some ⟨b,off+n*E,none⟩)) (.view c v):=by
 cases h with
 |slice0=>grind
 |slice _ _ _ _ _ _ _ f hcap hclip hE hc hr=>
 rw[List.getElem?_eq_some_iff]at j;obtain⟨e,rfl⟩:=j;have k:=hE _ (List.getElem_mem e);have o:=V8 hE
 have a:∀ i,i<E->n*E+i<(flat l).length:=by
  have:(n+1)*E<=l.length*E:=Nat.mul_le_mul_right _ e;rw[Nat.succ_mul]at this;omega
 refine .view c _ b (off+n*E) (λi=>f (n*E+i)) ?_ ?_
 grind
 intro i m;have p:=hr (n*E+i) (a i zo);have g:=Ih hE n i e zo;rw[List.getElem?_eq_getElem (a i zo),List.getElem?_eq_getElem m]at g;simp at g;rw[<- g];exact p
theorem C0{t:TypeId}{a i v:V}{x y:Value}(q:Rel X x a)(C:Rel X y i)(h:Wx P t a i=some v):∃ c,(Instr.indexAt t x y).run P w=.ok c w/\Rel X c v:=by
 unfold Wx at h
 split at h
 rename_i e k n r;cases C
 split at h
 rename_i c D E l
 split at h
 .rename_i hc
  obtain⟨p,B⟩:=hc;simp only[Option.map_eq_some_iff]at h;obtain⟨u,j,rfl⟩:=h
  have A:n.toNat<l.length:=by
   rw[List.getElem?_eq_some_iff]at j;exact j.1
  have z:=q
  cases q with
  |slice0=>simp at A
  |slice _ _ _ _ b d cap f hcap hclip hE hc hr'=>
   refine⟨_,?_,Zty z j⟩;have s:n<(l.length:Int):=zo;simp[Instr.indexAt,asIntOf,Zk r,Y0 p,B,s,Addr.add_lit]
 simp at h;rename_i o g d len E
 split at h
 .rename_i hc
  obtain⟨p,B,s⟩:=hc;simp at h;subst h
  cases q with
  |msl _ _ _ _ _ b bs cap hβ hcap hb=>
   refine⟨_,?_,.ptr o g (d+n.toNat*E) b bs hβ⟩;simp[Instr.indexAt,asIntOf,Zk r,Y0 p,B,s,Nat.add_assoc,Addr.add_lit]
 simp at h;simp at h;rename_i N e k n r;cases C
 split at h
 rename_i o g d m p
 split at h
 .rename_i hc
  simp at h;subst h
  cases q with
  |ptr _ _ _ b bs hβ=>
   refine⟨_,?_,.ptr o g (d+n.toNat*m) b bs hβ⟩;simp[Instr.indexAt,asIntOf,Zk r,Y0 p,hc,Instr.sureAddr,Nat.add_assoc,Addr.add_lit]
 simp at h;rename_i c l m p
 split at h
 .rename_i hc
  simp only[Option.map_eq_some_iff]at h;obtain⟨u,j,rfl⟩:=h;have z:=q
  cases q with
  |view _ _ b d fn s h2=>
   refine⟨_,?_,Zea z j p⟩;simp[Instr.indexAt,asIntOf,Zk r,Y0 p,hc,Instr.sureAddr,Addr.add_lit]
 simp at h;simp at h;simp at h
def Qf(P:Program)(t:TypeId)(a i:V):Option V:=
 match P.underlying t,a,i with
 |some .string,.str s,.int _ n=>if 0<=n then(s[n.toNat]?).map λb=>.int .u8 b.toNat else none
 |some (.array N e),.agg l,.int _ n=>if 0<=n/\n<N then match Yw P e with|some m=>Pr P e l (n.toNat*m)|none=>none else none
 |_,_,_=>none
theorem Z7s{t:TypeId}{a i v:V}{x y:Value}(p:Rel X x a)(o:Rel X y i)(h:Qf P t a i=some v):∃ c,(Instr.index t x y).run P w=.ok c w/\Rel X c v:=by
 unfold Qf at h
 split at h
 rename_i s k n f;obtain⟨q,rfl,rfl⟩:=p.str_inv;cases o
 split at h
 rename_i A;simp only[Option.map_eq_some_iff]at h;obtain⟨b,r,rfl⟩:=h;refine⟨_,?_,.int _ _⟩
 have:q[n.toNat]?=some b:=by
  rw[Array.getElem?_toList]at r
  have j:q[n.toNat]?=q.data[n.toNat]? := by
   by_cases d:n.toNat<q.size
   rw[getElem?_pos q _ d,getElem?_pos q.data _ d];rfl;rw[getElem?_neg q _ d,getElem?_neg q.data _ d]
  rw[j,r]
 simp[Instr.index,asIntOf,Zk f,A,this];simp at h;rename_i N e l k n f;cases o
 split at h
 rename_i z
 split at h
 .rename_i m hs
  cases p with
  |agg xs _ h1 j h3=>
   obtain⟨c,g,u⟩:=Z7i (w:=w) (.agg xs l h1 j h3) h;exact⟨c,by simp[Instr.index,asIntOf,Zk f,z,Y0 hs,g],u⟩
 simp at h;simp at h;simp at h
def Yu(d:Nat):Option V->Option Nat
 |none=>some d
 |some (.int _ n)=>if 0<=n then some n.toNat else none
 |_=>none
def Ub(P:Program)(t:TypeId)(a:V)(lo hi mx:Option V):Option V:=
 match P.underlying t,a with
 |some .string,.str s=>
  match Yu 0 lo,Yu s.length hi,mx with
  |some i,some j,none=>if i<=j/\j<=s.length then some (.str ((s.drop i).take (j-i)))else none
  |_,_,_=>none
 |some (.slice e),.slice c clip E l=>
  match Yu 0 lo,Yu l.length hi,mx with
  |some i,some j,none=>if Yw P e=some E/\i<=j/\j<=l.length then some (.slice c (clip&&j==l.length) E ((l.drop i).take (j-i)))else none
  |some i,some j,some m=>
   match hi,Yu 0 (some m)with
   |some _,some k=>if Yw P e=some E/\i<=j/\j<=k/\k<=l.length then some (.slice c (k==j) E ((l.drop i).take (j-i)))else none
   |_,_=>none
  |_,_,_=>none
 |some (.slice e),.msl o g off len E=>
  match Yu 0 lo,Yu len hi,mx with
  |some i,some j,none=>
   if Yw P e=some E/\i<=j/\j<=len then some (if i=0 then .msl o g off j E else if i<j then .msl o g (off+i*E) (j-i) E else .slice .any false E [])else none
  |_,_,_=>none
 |some (.slice e),.nils=>
  match Yu 0 lo,Yu 0 hi,Yu 0 mx,hi,mx with
  |some 0,some 0,some 0,_,none=>if(Yw P e).isSome then some .nils else none
  |some 0,some 0,some 0,some _,some _=>if(Yw P e).isSome then some .nils else none
  |_,_,_,_,_=>none
 |_,_=>none
theorem Gl{y:Value}{m:V}{n d:Nat}(b:Rel X y m)(h:Yu d (some m)=some n)(cap:Nat)(c:n<=cap)(a:BoundsCode):
  (Instr.sliceBound y cap a).run P w=.ok n w:=by
 cases b<;>simp only[Yu,reduceCtorEq]at h
 split at h
 rename_i k q e;simp at h;subst h;have:q<=(cap:Int):=zo;simp[Instr.sliceBound,asIntOf,e,this]
 grind
def K9(X:Cx):Option Value->Option V->Prop
 |none,none=>True
 |some x,some v=>Rel X x v
 |_,_=>False
theorem Vv{isSlice:Bool}{len cap:Nat}{lo hi mx:Option Value}{lo' hi' mx':Option V}{i j k:Nat}(s:K9 X lo lo')(r:K9 X hi hi')(q:K9 X mx mx')
  (f:Yu 0 lo'=some i) (d:Yu len hi'=some j) (b:Yu cap mx'=some k) (m:mx'=none\/hi'≠none) (o:i<=j) (n:j<=k) (t:k<=cap):
  (Instr.sliceBounds isSlice len cap lo hi mx).run P w=.ok (i,j,k) w:=by
 have p:∀ v a,mx=some v->mx'=some a->∀ c,(Instr.sliceBound v cap c).run P w=.ok k w:=λv a e g c=>by
  subst e;subst g;exact Gl q b cap t _
 have h:∀ v a,hi=some v->hi'=some a->∀ c,(Instr.sliceBound v k c).run P w=.ok j w:=λv a e g c=>by
  subst e;subst g;exact Gl r d k n _
 have l:∀ v a,lo=some v->lo'=some a->∀ c,(Instr.sliceBound v j c).run P w=.ok i w:=λv a e g c=>by
  subst e;subst g;exact Gl s f j o _
 cases lo<;>cases lo'<;>simp only[K9]at s<;>cases hi<;>cases hi'<;>simp only[K9]at r<;>cases mx<;>cases mx'<;>simp only[K9]at q <;>
  first
   |(exfalso;simp at m;done)
   |(simp only[Instr.sliceBounds,l _ _ rfl rfl,h _ _ rfl rfl,p _ _ rfl rfl,Sem.run_bind,Sem.run_pure,Result.andThen_ok];simp[Yu]at f d b;simp_all;done)
   |(simp only[Instr.sliceBounds,l _ _ rfl rfl,h _ _ rfl rfl,Sem.run_bind,Sem.run_pure,Result.andThen_ok];simp[Yu]at f d b;simp_all;done)
   |(simp only[Instr.sliceBounds,h _ _ rfl rfl,p _ _ rfl rfl,Sem.run_bind,Sem.run_pure,Result.andThen_ok];simp[Yu]at f d b;simp_all;done)
   |(simp only[Instr.sliceBounds,l _ _ rfl rfl,Sem.run_bind,Sem.run_pure,Result.andThen_ok];simp[Yu]at f d b;simp_all;done)
   |(simp only[Instr.sliceBounds,h _ _ rfl rfl,Sem.run_bind,Sem.run_pure,Result.andThen_ok];simp[Yu]at f d b;simp_all;done)
   |(simp only[Instr.sliceBounds,Sem.run_bind,Sem.run_pure,Result.andThen_ok];simp[Yu]at f d b;simp_all;done)
theorem M3{E:Nat}{l:List V}(d:∀ v∈l,v.cells.length=E)(i j:Nat)(q:Nat)(a:q<(flat ((l.drop i).take j)).length):
  ∃ h:i*E+q<(flat l).length,(flat ((l.drop i).take j))[q]=(flat l)[i*E+q]:=by
 have g:flat l=flat (l.take i)++flat (l.drop i):=by
  unfold flat;rw[<- List.flatMap_append,List.take_append_drop]
 have f:flat (l.drop i)=flat ((l.drop i).take j)++flat ((l.drop i).drop j):=by
  unfold flat;rw[<- List.flatMap_append,List.take_append_drop]
 by_cases c:i<=l.length
 have e:(flat (l.take i)).length=i*E:=by
  rw[V8 (E:=E) (λv b=>d v (List.mem_of_mem_take b)),List.length_take,Nat.min_eq_left c]
 grind
 rw[List.drop_eq_nil_of_le zo]at a;simp[flat]at a
theorem Ni{c:Col}{o a:Bool}{E i j:Nat}{l:List V}{b off len cap d:Nat}(h:Rel X (.slice (some ⟨b,off,none⟩) len cap) (.slice c o E l))(x:i<=j)(t:j<=l.length)
  (u:j-i<=d) (k:a=true->d=j-i) (e:Nat) (m:e=off+i*E\/j=i):
  Rel X (.slice (some ⟨b,e,none⟩) (j-i) d) (.slice c a E ((l.drop i).take (j-i))):=by
 cases h with
 |slice0=>
  have y:i=0:=by grind
  have t:j=0:=by grind
  subst y t;exact .slice c a E [] b e d (λ_=>undef) (Nat.zero_le _) (by grind) zS (by simp[flat]) (by simp[flat])
 |slice _ _ _ _ _ _ _ f h1 h2 hE hc hr=>
 have n:((l.drop i).take (j-i)).length=j-i:=zO;have s:∀ v∈(l.drop i).take (j-i),v.cells.length=E:=λv w=>hE v (List.mem_of_mem_drop (List.mem_of_mem_take w))
 have r:Rel X (.slice (some ⟨b,e,none⟩) ((l.drop i).take (j-i)).length d) (.slice c a E ((l.drop i).take (j-i))):=by
  refine .slice c a E _ b e d (λq=>f (i*E+q)) zo (λz=>by rw[k z];omega) s ?_ ?_;intro q p;obtain⟨g,_⟩:=M3 hE i (j-i) q p
  rcases m with rfl|rfl
  have:=hc _ g;rwa [<- Nat.add_assoc]at this;simp[flat]at p;intro q p;obtain⟨g,A⟩:=M3 hE i (j-i) q p;rw[A];exact hr _ g
 rwa [n]at r
theorem Z4q{t:TypeId}{a v:V}{x:Value}{lo hi mx:Option Value}{lo' hi' mx':Option V}(Q:Rel X x a)(H:K9 X lo lo')(G:K9 X hi hi')(F:K9 X mx mx')
  (h:Ub P t a lo' hi' mx'=some v):∃ c,(Instr.sliceAt t x lo hi mx).run P w=.ok c w/\Rel X c v:=by
 unfold Ub at h
 split at h
 rename_i s C;obtain⟨q,rfl,rfl⟩:=Q.str_inv
 split at h
 rename_i i j z u
 split at h
 rename_i M;simp at h;subst h;have S:q.size=q.data.toList.length:=(Array.length_toList (xs:=q.data)).symm;rw[<- S]at u M
 cases mx<;>simp only[K9]at F
 have B:=Vv (P:=P) (w:=w) (isSlice:=false) (cap:=q.size) (mx:=none) (mx':=none) H G trivial z u rfl (.inl rfl) M.1 M.2 (Nat.le_refl _);refine⟨.string (q.extract i j),?_,.str _ _ ?_⟩;simp[Instr.sliceAt,Instr.slice,Zk C,B];rw[Lib.extract_data];simp at h;simp at h
 .rename_i e c clip E l C
  cases Q with
  |slice0 _ _ _ a=>
   split at h
   rename_i i j z u
   split at h
   rename_i r;obtain⟨y,d,L⟩:=r;simp at h;subst h
   cases mx<;>simp only[K9]at F
   have J:j=0:=by simp at L;omega
   have A:i=0:=zo;subst J A;have u:Yu 0 hi'=some 0:=u;have B:=Vv (P:=P) (w:=w) (isSlice:=true) (cap:=0) (mx:=none) (mx':=none) H G trivial z u rfl (.inl rfl) d zo (Nat.le_refl _);refine⟨_,by simp only[Instr.sliceAt,Instr.slice,Zk C,B,Y0 y,Sem.run_bind,Result.andThen_ok,Sem.run_pure];rfl,?_⟩;simpa using Rel.slice0 _ _ _ a;simp at h;rename_i i j m z u
   split at h
   rename_i q k O
   split at h
   rename_i r;obtain⟨y,d,I,hk⟩:=r;simp at h;subst h
   have K:Yu 0 (some m)=some k:=by cases m<;>simp_all [Yu]
   have U:k=0:=by simp at hk;omega
   have J:j=0:=zo;have A:i=0:=zo;subst U J A;rw[show([]:List V).length=0 from rfl]at u;have B:=Vv (P:=P) (w:=w) (isSlice:=true) (cap:=0) H G F z u K (.inr zS) d I zo;refine⟨_,by simp only[Instr.sliceAt,Instr.slice,Zk C,B,Y0 y,Sem.run_bind,Result.andThen_ok,Sem.run_pure];rfl,?_⟩;simpa using Rel.slice0 _ _ _ a;simp at h;simp at h;simp at h
  |slice _ _ _ _ b off cap f hcap hclip hE M hr=>
  have R:Rel X (.slice (some ⟨b,off,none⟩) l.length cap) (.slice c clip E l):=.slice _ _ _ _ b off cap f hcap hclip hE M hr
  split at h
  rename_i i j z u
  split at h
  rename_i r;obtain⟨y,d,L⟩:=r;simp at h;subst h
  cases mx<;>simp only[K9]at F
  have B:=Vv (P:=P) (w:=w) (isSlice:=true) (cap:=cap) (mx:=none) (mx':=none) H G trivial z u rfl (.inl rfl) d zo (Nat.le_refl _);refine⟨_,by simp only[Instr.sliceAt,Instr.slice,Zk C,B,Y0 y,Sem.run_bind,Result.andThen_ok,Sem.run_pure];rfl,?_⟩
  by_cases p:cap=i
  simp only[p,if_true];exact Ni R d L zo (λD=>by simp at D;have:=hclip D.1;omega) off (.inr zo);simp only[p,if_false,Option.map_some,Addr.add_lit];exact Ni R d L zo (λD=>by simp at D;have:=hclip D.1;omega) _ (.inl rfl);simp at h;rename_i i j m z u
  split at h
  rename_i q k O
  split at h
  rename_i r;obtain⟨y,d,I,hk⟩:=r;simp at h;subst h
  have K:Yu cap (some m)=some k:=by cases m<;>simp_all [Yu]
  have B:=Vv (P:=P) (w:=w) (isSlice:=true) (cap:=cap) H G F z u K (.inr zS) d I zo;refine⟨_,by simp only[Instr.sliceAt,Instr.slice,Zk C,B,Y0 y,Sem.run_bind,Result.andThen_ok,Sem.run_pure];rfl,?_⟩
  by_cases p:k=i
  simp only[p,if_true];exact Ni R d zo zo (λD=>by simp at D;omega) off (.inr zo);simp only[p,if_false,Option.map_some,Addr.add_lit];exact Ni R d zo zo (λD=>by simp at D;omega) _ (.inl rfl);simp at h;simp at h;simp at h
 .rename_i e o g off len E C
  cases Q with
  |msl _ _ _ _ _ b bs cap hβ hcap B=>
  split at h
  rename_i i j z u
  split at h
  rename_i r;obtain⟨y,d,L⟩:=r;simp at h;subst h
  cases mx<;>simp only[K9]at F
  have Y:=Vv (P:=P) (w:=w) (isSlice:=true) (cap:=cap) (mx:=none) (mx':=none) H G trivial z u rfl (.inl rfl) d zo (Nat.le_refl _);refine⟨_,by simp only[Instr.sliceAt,Instr.slice,Zk C,Y,Y0 y,Sem.run_bind,Result.andThen_ok,Sem.run_pure];rfl,?_⟩;obtain⟨c',t',N,hb2⟩:=B
  by_cases A:i=0
  subst A;simp only[if_true,Nat.sub_zero]
  have:(if cap=0 then some (⟨b,bs+off,none⟩:Addr)else(some (⟨b,bs+off,none⟩:Addr)).map λx=>x.add (0*E))=some ⟨b,bs+off,none⟩:=by
   split<;>simp[Addr.add_lit]
  rw[this];exact .msl o g off j E b bs cap hβ zo ⟨c',t',N,hb2⟩;simp only[A,if_false]
  by_cases T:i<j
  have p:¬ cap=i:=zo;simp only[T,p,if_true,if_false,Option.map_some,Addr.add_lit,Nat.add_assoc];refine .msl o g (off+i*E) (j-i) E b bs (cap-i) hβ zo ⟨c',t',N,?_⟩
  have:i*E+(cap-i)*E=cap*E:=by rw[<- Nat.add_mul];congr 1;omega
  omega;have W:j=i:=zo;subst W;simp only[Nat.lt_irrefl,if_false,Nat.sub_self]
  by_cases p:cap=j
  simp only[p,if_true];exact .slice .any false E [] b (bs+off) _ (λ_=>undef) zS zS zS (by simp[flat]) (by simp[flat]);simp only[p,if_false,Option.map_some,Addr.add_lit];exact .slice .any false E [] b _ _ (λ_=>undef) zS zS zS (by simp[flat]) (by simp[flat]);simp at h;simp at h
 rename_i e C;cases Q
 have fin:∀ lo hi mx,(Instr.sliceBounds true 0 0 lo hi mx).run P w=.ok (0,0,0) w->(Yw P e).isSome=true->(Instr.sliceAt t (.slice none 0 0) lo hi mx).run P w=.ok (.slice none 0 0) w:=by
  intro lo hi mx B y;obtain⟨n,y⟩:=Option.isSome_iff_exists.1 y;simp[Instr.sliceAt,Instr.slice,Zk C,B,Y0 y]
 split at h
 rename_i z u O
 split at h
 rename_i y;simp at h;subst h;exact⟨_,fin _ _ _ (Vv H G F z u O (.inl rfl) (Nat.le_refl _) (Nat.le_refl _) (Nat.le_refl _)) y,.nils⟩;simp at h;rename_i z u O
 split at h
 rename_i y;simp at h;subst h;exact⟨_,fin _ _ _ (Vv H G F z u O (.inr zS) (Nat.le_refl _) (Nat.le_refl _) (Nat.le_refl _)) y,.nils⟩;simp at h;simp at h;simp at h
end
end Go.Hs
