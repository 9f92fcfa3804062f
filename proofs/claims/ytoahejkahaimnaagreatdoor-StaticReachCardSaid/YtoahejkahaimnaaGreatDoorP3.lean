/- A part. No condition. -/
import Derived.Test.YtoahejkahaimnaaGreatDoorP2
import Derived.Lib.Strings
set_option linter.all false
namespace Go.Hs
section
variable{P:Program}{X:Cx}{w:World}
theorem Rel.cells1{x:Value}{v:V}(h:Rel X x v)(ho:x.oneCell'=true):v.cells=[v]:=by
 cases h<;>simp_all [V.cells,Value.oneCell']
theorem Z25{t:TypeId}{xs:Array Value}{l:List V}{off:Nat}{v:V}(h:Rel X (.agg xs) (.agg l))(hp:Zzj P t l off=some v):
  ∃ c,(part t xs off).run P w=.ok c w/\Rel X c v:=by
 cases h with
 |agg _ _ hx ho hr=>
 unfold Zzj at hp
 cases hb:Zof P t with
 |none=>simp[hb]at hp
 |some b=>
  cases hs:Z9a P t with
  |none=>cases b<;>simp[hb,hs]at hp
  |some n=>
   cases b with
   |true=>
    simp only[hb,hs]at hp
    split at hp
    rename_i hle;simp at hp;subst hp;refine⟨.agg (xs.extract off (off+n)),by simp[part,Z5f hb,Zda hs],.agg _ _ ?_ ?_ ?_⟩;simp;omega;intro x hxm;obtain⟨i,hi,rfl⟩:=Array.getElem_of_mem hxm;rw[Array.getElem_extract];exact ho _ (Array.getElem_mem _);intro i h1 h2;rw[Array.getElem_extract,List.getElem_take,List.getElem_drop];exact hr _ (by simp at h1;omega) (by simp at h2;omega);simp at hp
   |false=>
    simp only[hb,hs]at hp
    split at hp
    rename_i h1 h2;simp at h1;rw[List.getElem?_eq_some_iff]at hp;obtain⟨hlt,rfl⟩:=hp
    have:xs[off]?=some (xs[off]'zo):=by simp[hx,hlt]
    exact⟨xs[off]'zo,by simp[part,Z5f hb,this],hr _ zo hlt⟩;simp at hp
def Zeha(P:Program)(t:TypeId)(a:V)(f:Nat):Option V:=
 match P.underlying t,a with
 |some (.struct fs),.agg l=>match fs[f]? with
  |some fd=>Zzj P fd.type l fd.offset
  |none=>none
 |_,_=>none
theorem Zdaa{t:TypeId}{a v:V}{x:Value}{f:Nat}(hx:Rel X x a)(h:Zeha P t a f=some v):∃ c,(Instr.field t x f).run P w=.ok c w/\Rel X c v:=by
 unfold Zeha at h
 split at h
 rename_i fs l hu
 split at h
 .rename_i fd hf
  cases hx with
  |agg xs _ h1 h2 h3=>
   obtain⟨c,hc,hr⟩:=Z25 (w:=w) (.agg xs l h1 h2 h3) h;exact⟨c,by simp[Instr.field,Zd hu,hf,asAgg,hc],hr⟩
 simp at h;simp at h
theorem Zcu{t:TypeId}{l:List V}{v:V}{c:Col}{b off o n:Nat}(h:Rel X (.pointer (some ⟨b,off,none⟩)) (.view c (.agg l)))(hp:Zzj P t l o=some v)(hn:Z9a P t=some n):
  Rel X (.pointer (some ⟨b,off+o,none⟩)) (.view c v):=by
 cases h with
 |view _ _ _ _ f hc hr=>
 simp only[V.cells]at hc hr
 have hcs:∀ x∈l,x.cells=[x]:=by
  intro x hx;obtain⟨i,hi,rfl⟩:=List.getElem_of_mem hx;exact(hr i hi).cells1 (hc i hi).2.2.2
 obtain⟨h1,h2,h3⟩:=Z7z hp hn hcs;refine .view c v b (off+o) (λi=>f (o+i)) ?_ ?_;intro i hi;have:=hc (o+i) zo;rwa [<- Nat.add_assoc]at this;intro i hi
 have h4:v.cells[i]=l[o+i]'zo:=by
  have:v.cells[i]?=((l.drop o).take n)[i]? := by rw[h2]
  rw[List.getElem?_eq_getElem hi,List.getElem?_take_of_lt zo,List.getElem?_drop,List.getElem?_eq_getElem zo]at this;simpa using this
 rw[h4];exact hr _ zo
def Z2d(P:Program)(t:TypeId)(a:V)(f:Nat):Option V:=
 match P.underlying t with
 |some (.struct fs)=>match fs[f]? with
  |some fd=>match Z9a P fd.type with
   |some (_+1)=>match a with
    |.ptr o g off=>some (.ptr o g (off+fd.offset))
    |.view c (.agg l)=>(Zzj P fd.type l fd.offset).map (.view c)
    |_=>none
   |_=>none
  |none=>none
 |_=>none
theorem Zdq{t:TypeId}{a v:V}{x:Value}{f:Nat}(hx:Rel X x a)(h:Z2d P t a f=some v):∃ c,(Instr.fieldAt t x f).run P w=.ok c w/\Rel X c v:=by
 unfold Z2d at h
 split at h
 rename_i fs hu
 split at h
 rename_i fd hf
 split at h
 rename_i n hn
 have key:∀ b off,(Instr.fieldAt t (.pointer (some ⟨b,off,none⟩)) f).run P w=.ok (.pointer (some ⟨b,off+fd.offset,none⟩)) w:=by
  intro b off;simp[Instr.fieldAt,Zd hu,hf,Instr.sureAddr,fieldPlace,Zda hn,Addr.add_lit]
 split at h
 .simp at h;subst h
  cases hx with
  |ptr o g off b bs hβ => exact⟨_,key _ _,by rw[Nat.add_assoc];exact .ptr _ _ _ _ _ hβ⟩
 .rename_i c l
  simp only[Option.map_eq_some_iff]at h;obtain⟨u,hu',rfl⟩:=h
  cases hx with
  |view _ _ b off fn hc hr=>
   exact⟨_,key _ _,Zcu (.view c _ b off fn hc hr) hu' hn⟩
 simp at h;simp at h;simp at h;simp at h
theorem Zsb{E:Nat}:∀ {l:List V},(∀ v∈l,v.cells.length=E)->(flat l).length=l.length*E
 |[],_=>by simp[flat]
 |v::r,h=>by
  have ih:=Zsb (E:=E) (l:=r) (λx hx=>h x (List.mem_cons_of_mem _ hx));have h0:=h v (List.mem_cons_self ..);unfold flat at *;simp[h0,ih,Nat.add_mul,Nat.add_comm]
theorem Zpg{E:Nat}:∀ {l:List V},(∀ v∈l,v.cells.length=E)->∀ (n j:Nat) (hn:n<l.length),j<E->(flat l)[n*E+j]?=(l[n]).cells[j]?
 |[],_,n,j,hn,_=>by simp at hn
 |v::r,h,n,j,hn,hj=>by
  have h0:=h v (List.mem_cons_self ..);have hr:∀ x∈r,x.cells.length=E:=λx hx=>h x (List.mem_cons_of_mem _ hx)
  have e:flat (v::r)=v.cells++flat r:=by simp[flat]
  rw[e]
  cases n with
  |zero=>
   simp only[Nat.zero_mul,Nat.zero_add,List.getElem_cons_zero];rw[List.getElem?_append_left zo]
  |succ n=>
   have ih:=Zpg hr n j (zu hn) hj;rw[List.getElem?_append_right (by rw[h0,Nat.succ_mul];omega),h0,List.getElem_cons_succ,<- ih]
   congr 1
   rw[Nat.succ_mul];omega
def Zyb(P:Program)(t:TypeId)(a i:V):Option V:=
 match P.underlying t,i with
 |some (.slice e),.int _ n=>match a with
  |.slice c _ E l=>if Z9a P e=some E/\0<=n then(l[n.toNat]?).map (.view c)else none
  |.msl o g off len E=>if Z9a P e=some E/\0<=n/\n<len then some (.ptr o g (off+n.toNat*E))else none
  |_=>none
 |some (.array N e),.int _ n=>match a,Z9a P e with
  |.ptr o g off,some m=>if 0<=n/\n<N then some (.ptr o g (off+n.toNat*m))else none
  |.view c (.agg l),some m=>if 0<=n/\n<N then(Zzj P e l (n.toNat*m)).map (.view c)else none
  |_,_=>none
 |_,_=>none
theorem Zqda{c:Col}{clip:Bool}{E:Nat}{l:List V}{b off n:Nat}{len cap:Nat}{v:V}(h:Rel X (.slice (some ⟨b,off,none⟩) len cap) (.slice c clip E l))(hv:l[n]?=some v):
  Rel X (.pointer (some ⟨b,off+n*E,none⟩)) (.view c v):=by
 cases h with
 |slice0=>simp at hv
 |slice _ _ _ _ _ _ _ f hcap hclip hE hc hr=>
 rw[List.getElem?_eq_some_iff]at hv;obtain⟨hn,rfl⟩:=hv;have hvE:=hE _ (List.getElem_mem hn);have hfl:=Zsb hE
 have hlt:∀ i,i<E->n*E+i<(flat l).length:=by
  intro i hi;rw[hfl];have:(n+1)*E<=l.length*E:=Nat.mul_le_mul_right _ hn;rw[Nat.succ_mul]at this;omega
 refine .view c _ b (off+n*E) (λi=>f (n*E+i)) ?_ ?_;intro i hi;have:=hc (n*E+i) (hlt i zo);rwa [<- Nat.add_assoc]at this;intro i hi;have h1:=hr (n*E+i) (hlt i zo);have h2:=Zpg hE n i hn zo;rw[List.getElem?_eq_getElem (hlt i zo),List.getElem?_eq_getElem hi]at h2;simp at h2;rw[<- h2];exact h1
theorem Zcq{t:TypeId}{a i v:V}{x y:Value}(hx:Rel X x a)(hy:Rel X y i)(h:Zyb P t a i=some v):∃ c,(Instr.indexAt t x y).run P w=.ok c w/\Rel X c v:=by
 unfold Zyb at h
 split at h
 rename_i e k n hu;cases hy
 split at h
 rename_i c clip E l
 split at h
 .rename_i hc
  obtain⟨hs,h0⟩:=hc;simp only[Option.map_eq_some_iff]at h;obtain⟨u,hu',rfl⟩:=h
  have hlt:n.toNat<l.length:=by
   rw[List.getElem?_eq_some_iff]at hu';exact hu'.1
  have hr:=hx
  cases hx with
  |slice0=>simp at hlt
  |slice _ _ _ _ b off cap f hcap hclip hE hc hr'=>
   refine⟨_,?_,Zqda hr hu'⟩;have h1:n<(l.length:Int):=zo;simp[Instr.indexAt,asIntOf,Zd hu,Zda hs,h0,h1,Addr.add_lit]
 simp at h;rename_i o g off len E
 split at h
 .rename_i hc
  obtain⟨hs,h0,h1⟩:=hc;simp at h;subst h
  cases hx with
  |msl _ _ _ _ _ b bs cap hβ hcap hb=>
   refine⟨_,?_,.ptr o g (off+n.toNat*E) b bs hβ⟩;simp[Instr.indexAt,asIntOf,Zd hu,Zda hs,h0,h1,Nat.add_assoc,Addr.add_lit]
 simp at h;simp at h;rename_i N e k n hu;cases hy
 split at h
 rename_i o g off m hs
 split at h
 .rename_i hc
  simp at h;subst h
  cases hx with
  |ptr _ _ _ b bs hβ=>
   refine⟨_,?_,.ptr o g (off+n.toNat*m) b bs hβ⟩;simp[Instr.indexAt,asIntOf,Zd hu,Zda hs,hc,Instr.sureAddr,Nat.add_assoc,Addr.add_lit]
 simp at h;rename_i c l m hs
 split at h
 .rename_i hc
  simp only[Option.map_eq_some_iff]at h;obtain⟨u,hu',rfl⟩:=h;have hr:=hx
  cases hx with
  |view _ _ b off fn h1 h2=>
   refine⟨_,?_,Zcu hr hu' hs⟩;simp[Instr.indexAt,asIntOf,Zd hu,Zda hs,hc,Instr.sureAddr,Addr.add_lit]
 simp at h;simp at h;simp at h
def Zih(P:Program)(t:TypeId)(a i:V):Option V:=
 match P.underlying t,a,i with
 |some .string,.str s,.int _ n=>if 0<=n then(s[n.toNat]?).map λb=>.int .u8 b.toNat else none
 |some (.array N e),.agg l,.int _ n=>if 0<=n/\n<N then match Z9a P e with|some m=>Zzj P e l (n.toNat*m)|none=>none else none
 |_,_,_=>none
theorem Z69{t:TypeId}{a i v:V}{x y:Value}(hx:Rel X x a)(hy:Rel X y i)(h:Zih P t a i=some v):∃ c,(Instr.index t x y).run P w=.ok c w/\Rel X c v:=by
 unfold Zih at h
 split at h
 rename_i s k n hu;obtain⟨q,rfl,rfl⟩:=hx.str_inv;cases hy
 split at h
 rename_i h0;simp only[Option.map_eq_some_iff]at h;obtain⟨b,hb,rfl⟩:=h;refine⟨_,?_,.int _ _⟩
 have:q[n.toNat]?=some b:=by
  rw[Array.getElem?_toList]at hb
  have h2:q[n.toNat]?=q.data[n.toNat]? := by
   by_cases hlt:n.toNat<q.size
   rw[getElem?_pos q _ hlt,getElem?_pos q.data _ hlt];rfl;rw[getElem?_neg q _ hlt,getElem?_neg q.data _ hlt]
  rw[h2,hb]
 simp[Instr.index,asIntOf,Zd hu,h0,this];simp at h;rename_i N e l k n hu;cases hy
 split at h
 rename_i hc
 split at h
 .rename_i m hs
  cases hx with
  |agg xs _ h1 h2 h3=>
   obtain⟨c,hc',hr⟩:=Z25 (w:=w) (.agg xs l h1 h2 h3) h;exact⟨c,by simp[Instr.index,asIntOf,Zd hu,hc,Zda hs,hc'],hr⟩
 simp at h;simp at h;simp at h
def Zga(d:Nat):Option V->Option Nat
 |none=>some d
 |some (.int _ n)=>if 0<=n then some n.toNat else none
 |_=>none
def Zge(P:Program)(t:TypeId)(a:V)(lo hi mx:Option V):Option V:=
 match P.underlying t,a with
 |some .string,.str s=>
  match Zga 0 lo,Zga s.length hi,mx with
  |some i,some j,none=>if i<=j/\j<=s.length then some (.str ((s.drop i).take (j-i)))else none
  |_,_,_=>none
 |some (.slice e),.slice c clip E l=>
  match Zga 0 lo,Zga l.length hi,mx with
  |some i,some j,none=>if Z9a P e=some E/\i<=j/\j<=l.length then some (.slice c (clip&&j==l.length) E ((l.drop i).take (j-i)))else none
  |some i,some j,some m=>
   match hi,Zga 0 (some m)with
   |some _,some k=>if Z9a P e=some E/\i<=j/\j<=k/\k<=l.length then some (.slice c (k==j) E ((l.drop i).take (j-i)))else none
   |_,_=>none
  |_,_,_=>none
 |some (.slice e),.msl o g off len E=>
  match Zga 0 lo,Zga len hi,mx with
  |some i,some j,none=>
   if Z9a P e=some E/\i<=j/\j<=len then some (if i=0 then .msl o g off j E else if i<j then .msl o g (off+i*E) (j-i) E else .slice .any false E [])else none
  |_,_,_=>none
 |some (.slice e),.nils=>
  match Zga 0 lo,Zga 0 hi,Zga 0 mx,hi,mx with
  |some 0,some 0,some 0,_,none=>if(Z9a P e).isSome then some .nils else none
  |some 0,some 0,some 0,some _,some _=>if(Z9a P e).isSome then some .nils else none
  |_,_,_,_,_=>none
 |_,_=>none
theorem Z6o{y:Value}{m:V}{n d:Nat}(hy:Rel X y m)(h:Zga d (some m)=some n)(cap:Nat)(hle:n<=cap)(code:BoundsCode):
  (Instr.sliceBound y cap code).run P w=.ok n w:=by
 cases hy<;>simp only[Zga,reduceCtorEq]at h
 split at h
 rename_i k q h0;simp at h;subst h;have:q<=(cap:Int):=zo;simp[Instr.sliceBound,asIntOf,h0,this];simp at h
def Zz4(X:Cx):Option Value->Option V->Prop
 |none,none=>True
 |some x,some v=>Rel X x v
 |_,_=>False
theorem Zpc{isSlice:Bool}{len cap:Nat}{lo hi mx:Option Value}{lo' hi' mx':Option V}{i j k:Nat}(h1:Zz4 X lo lo')(h2:Zz4 X hi hi')(h3:Zz4 X mx mx')
  (b1:Zga 0 lo'=some i) (b2:Zga len hi'=some j) (b3:Zga cap mx'=some k) (hmx:mx'=none\/hi'≠none) (hij:i<=j) (hjk:j<=k) (hk:k<=cap):
  (Instr.sliceBounds isSlice len cap lo hi mx).run P w=.ok (i,j,k) w:=by
 have r3:∀ v v',mx=some v->mx'=some v'->∀ c,(Instr.sliceBound v cap c).run P w=.ok k w:=λv v' e e' c=>by
  subst e;subst e';exact Z6o h3 b3 cap hk _
 have r2:∀ v v',hi=some v->hi'=some v'->∀ c,(Instr.sliceBound v k c).run P w=.ok j w:=λv v' e e' c=>by
  subst e;subst e';exact Z6o h2 b2 k hjk _
 have r1:∀ v v',lo=some v->lo'=some v'->∀ c,(Instr.sliceBound v j c).run P w=.ok i w:=λv v' e e' c=>by
  subst e;subst e';exact Z6o h1 b1 j hij _
 cases lo<;>cases lo'<;>simp only[Zz4]at h1<;>cases hi<;>cases hi'<;>simp only[Zz4]at h2<;>cases mx<;>cases mx'<;>simp only[Zz4]at h3 <;>
  first
   |(exfalso;simp at hmx;done)
   |(simp only[Instr.sliceBounds,r1 _ _ rfl rfl,r2 _ _ rfl rfl,r3 _ _ rfl rfl,Sem.run_bind,Sem.run_pure,Result.andThen_ok];simp[Zga]at b1 b2 b3;simp_all;done)
   |(simp only[Instr.sliceBounds,r1 _ _ rfl rfl,r2 _ _ rfl rfl,Sem.run_bind,Sem.run_pure,Result.andThen_ok];simp[Zga]at b1 b2 b3;simp_all;done)
   |(simp only[Instr.sliceBounds,r2 _ _ rfl rfl,r3 _ _ rfl rfl,Sem.run_bind,Sem.run_pure,Result.andThen_ok];simp[Zga]at b1 b2 b3;simp_all;done)
   |(simp only[Instr.sliceBounds,r1 _ _ rfl rfl,Sem.run_bind,Sem.run_pure,Result.andThen_ok];simp[Zga]at b1 b2 b3;simp_all;done)
   |(simp only[Instr.sliceBounds,r2 _ _ rfl rfl,Sem.run_bind,Sem.run_pure,Result.andThen_ok];simp[Zga]at b1 b2 b3;simp_all;done)
   |(simp only[Instr.sliceBounds,Sem.run_bind,Sem.run_pure,Result.andThen_ok];simp[Zga]at b1 b2 b3;simp_all;done)
theorem Zli{E:Nat}{l:List V}(hE:∀ v∈l,v.cells.length=E)(i j:Nat)(q:Nat)(hq:q<(flat ((l.drop i).take j)).length):
  ∃ h:i*E+q<(flat l).length,(flat ((l.drop i).take j))[q]=(flat l)[i*E+q]:=by
 have hE1:∀ v∈l.drop i,v.cells.length=E:=λv hv=>hE v (List.mem_of_mem_drop hv)
 have e1:flat l=flat (l.take i)++flat (l.drop i):=by
  unfold flat;rw[<- List.flatMap_append,List.take_append_drop]
 have e2:flat (l.drop i)=flat ((l.drop i).take j)++flat ((l.drop i).drop j):=by
  unfold flat;rw[<- List.flatMap_append,List.take_append_drop]
 by_cases hi:i<=l.length
 have e3:(flat (l.take i)).length=i*E:=by
  rw[Zsb (E:=E) (λv hv=>hE v (List.mem_of_mem_take hv)),List.length_take,Nat.min_eq_left hi]
 have hlt:i*E+q<(flat l).length:=by rw[e1,List.length_append,e3,e2,List.length_append];omega
 refine⟨hlt,?_⟩
 have:(flat l)[i*E+q]?=(flat ((l.drop i).take j))[q]? := by
  rw[e1,List.getElem?_append_right zo,e3,Nat.add_sub_cancel_left,e2,List.getElem?_append_left hq]
 rw[List.getElem?_eq_getElem hlt,List.getElem?_eq_getElem hq]at this;simpa using this.symm;rw[List.drop_eq_nil_of_le zo]at hq;simp[flat]at hq
theorem Z2h{c:Col}{clip clip':Bool}{E i j:Nat}{l:List V}{b off len cap cap':Nat}(h:Rel X (.slice (some ⟨b,off,none⟩) len cap) (.slice c clip E l))(hij:i<=j)(hj:j<=l.length)
  (hcap:j-i<=cap') (hclip:clip'=true->cap'=j-i) (off':Nat) (hoff:off'=off+i*E\/j=i):
  Rel X (.slice (some ⟨b,off',none⟩) (j-i) cap') (.slice c clip' E ((l.drop i).take (j-i))):=by
 cases h with
 |slice0=>
  have hi:i=0:=by simp at hj;omega
  have hj:j=0:=by simp at hj;omega
  subst hi hj;exact .slice c clip' E [] b off' cap' (λ_=>undef) (Nat.zero_le _) (zu hclip) zS (by simp[flat]) (by simp[flat])
 |slice _ _ _ _ _ _ _ f h1 h2 hE hc hr=>
 have hlen:((l.drop i).take (j-i)).length=j-i:=zO;have hE':∀ v∈(l.drop i).take (j-i),v.cells.length=E:=λv hv=>hE v (List.mem_of_mem_drop (List.mem_of_mem_take hv))
 have key:Rel X (.slice (some ⟨b,off',none⟩) ((l.drop i).take (j-i)).length cap') (.slice c clip' E ((l.drop i).take (j-i))):=by
  refine .slice c clip' E _ b off' cap' (λq=>f (i*E+q)) zo (λhh=>by rw[hclip hh];omega) hE' ?_ ?_;intro q hq;obtain⟨hlt,_⟩:=Zli hE i (j-i) q hq
  rcases hoff with rfl|rfl
  have:=hc _ hlt;rwa [<- Nat.add_assoc]at this;simp[flat]at hq;intro q hq;obtain⟨hlt,he⟩:=Zli hE i (j-i) q hq;rw[he];exact hr _ hlt
 rwa [hlen]at key
theorem Zc8{t:TypeId}{a v:V}{x:Value}{lo hi mx:Option Value}{lo' hi' mx':Option V}(hx:Rel X x a)(h1:Zz4 X lo lo')(h2:Zz4 X hi hi')(h3:Zz4 X mx mx')
  (h:Zge P t a lo' hi' mx'=some v):∃ c,(Instr.sliceAt t x lo hi mx).run P w=.ok c w/\Rel X c v:=by
 unfold Zge at h
 split at h
 rename_i s hu;obtain⟨q,rfl,rfl⟩:=hx.str_inv
 split at h
 rename_i i j b1 b2
 split at h
 rename_i hc;simp at h;subst h;have hsz:q.size=q.data.toList.length:=(Array.length_toList (xs:=q.data)).symm;rw[<- hsz]at b2 hc
 cases mx<;>simp only[Zz4]at h3
 have hb:=Zpc (P:=P) (w:=w) (isSlice:=false) (cap:=q.size) (mx:=none) (mx':=none) h1 h2 trivial b1 b2 rfl (.inl rfl) hc.1 hc.2 (Nat.le_refl _);refine⟨.string (q.extract i j),?_,.str _ _ ?_⟩;simp[Instr.sliceAt,Instr.slice,Zd hu,hb];rw[Lib.extract_data];simp at h;simp at h
 .rename_i e c clip E l hu
  cases hx with
  |slice0 _ _ _ a=>
   split at h
   rename_i i j b1 b2
   split at h
   rename_i hcd;obtain⟨hs,hij,hj⟩:=hcd;simp at h;subst h
   cases mx<;>simp only[Zz4]at h3
   have hj0:j=0:=by simp at hj;omega
   have hi0:i=0:=zo;subst hj0 hi0;have b2:Zga 0 hi'=some 0:=b2;have hb:=Zpc (P:=P) (w:=w) (isSlice:=true) (cap:=0) (mx:=none) (mx':=none) h1 h2 trivial b1 b2 rfl (.inl rfl) hij zo (Nat.le_refl _);refine⟨_,by simp only[Instr.sliceAt,Instr.slice,Zd hu,hb,Zda hs,Sem.run_bind,Result.andThen_ok,Sem.run_pure];rfl,?_⟩;simpa using Rel.slice0 _ _ _ a;simp at h;rename_i i j m b1 b2
   split at h
   rename_i q k b3
   split at h
   rename_i hcd;obtain⟨hs,hij,hjk,hk⟩:=hcd;simp at h;subst h
   have b3':Zga 0 (some m)=some k:=by cases m<;>simp_all [Zga]
   have hk0:k=0:=by simp at hk;omega
   have hj0:j=0:=zo;have hi0:i=0:=zo;subst hk0 hj0 hi0;rw[show([]:List V).length=0 from rfl]at b2;have hb:=Zpc (P:=P) (w:=w) (isSlice:=true) (cap:=0) h1 h2 h3 b1 b2 b3' (.inr zS) hij hjk zo;refine⟨_,by simp only[Instr.sliceAt,Instr.slice,Zd hu,hb,Zda hs,Sem.run_bind,Result.andThen_ok,Sem.run_pure];rfl,?_⟩;simpa using Rel.slice0 _ _ _ a;simp at h;simp at h;simp at h
  |slice _ _ _ _ b off cap f hcap hclip hE hc hr=>
  have hR:Rel X (.slice (some ⟨b,off,none⟩) l.length cap) (.slice c clip E l):=.slice _ _ _ _ b off cap f hcap hclip hE hc hr
  split at h
  rename_i i j b1 b2
  split at h
  rename_i hcd;obtain⟨hs,hij,hj⟩:=hcd;simp at h;subst h
  cases mx<;>simp only[Zz4]at h3
  have hb:=Zpc (P:=P) (w:=w) (isSlice:=true) (cap:=cap) (mx:=none) (mx':=none) h1 h2 trivial b1 b2 rfl (.inl rfl) hij zo (Nat.le_refl _);refine⟨_,by simp only[Instr.sliceAt,Instr.slice,Zd hu,hb,Zda hs,Sem.run_bind,Result.andThen_ok,Sem.run_pure];rfl,?_⟩
  by_cases hci:cap=i
  simp only[hci,if_true];exact Z2h hR hij hj zo (λhh=>by simp at hh;have:=hclip hh.1;omega) off (.inr zo);simp only[hci,if_false,Option.map_some,Addr.add_lit];exact Z2h hR hij hj zo (λhh=>by simp at hh;have:=hclip hh.1;omega) _ (.inl rfl);simp at h;rename_i i j m b1 b2
  split at h
  rename_i q k b3
  split at h
  rename_i hcd;obtain⟨hs,hij,hjk,hk⟩:=hcd;simp at h;subst h
  have b3':Zga cap (some m)=some k:=by cases m<;>simp_all [Zga]
  have hb:=Zpc (P:=P) (w:=w) (isSlice:=true) (cap:=cap) h1 h2 h3 b1 b2 b3' (.inr zS) hij hjk zo;refine⟨_,by simp only[Instr.sliceAt,Instr.slice,Zd hu,hb,Zda hs,Sem.run_bind,Result.andThen_ok,Sem.run_pure];rfl,?_⟩
  by_cases hci:k=i
  simp only[hci,if_true];exact Z2h hR hij zo zo (λhh=>by simp at hh;omega) off (.inr zo);simp only[hci,if_false,Option.map_some,Addr.add_lit];exact Z2h hR hij zo zo (λhh=>by simp at hh;omega) _ (.inl rfl);simp at h;simp at h;simp at h
 .rename_i e o g off len E hu
  cases hx with
  |msl _ _ _ _ _ b bs cap hβ hcap hb=>
  split at h
  rename_i i j b1 b2
  split at h
  rename_i hcd;obtain⟨hs,hij,hj⟩:=hcd;simp at h;subst h
  cases mx<;>simp only[Zz4]at h3
  have hbr:=Zpc (P:=P) (w:=w) (isSlice:=true) (cap:=cap) (mx:=none) (mx':=none) h1 h2 trivial b1 b2 rfl (.inl rfl) hij zo (Nat.le_refl _);refine⟨_,by simp only[Instr.sliceAt,Instr.slice,Zd hu,hbr,Zda hs,Sem.run_bind,Result.andThen_ok,Sem.run_pure];rfl,?_⟩;obtain⟨c',t',hb1,hb2⟩:=hb
  by_cases hi0:i=0
  subst hi0;simp only[if_true,Nat.sub_zero]
  have:(if cap=0 then some (⟨b,bs+off,none⟩:Addr)else(some (⟨b,bs+off,none⟩:Addr)).map λx=>x.add (0*E))=some ⟨b,bs+off,none⟩:=by
   split<;>simp[Addr.add_lit]
  rw[this];exact .msl o g off j E b bs cap hβ zo ⟨c',t',hb1,hb2⟩;simp only[hi0,if_false]
  by_cases hlt:i<j
  have hci:¬ cap=i:=zo;simp only[hlt,hci,if_true,if_false,Option.map_some,Addr.add_lit,Nat.add_assoc];refine .msl o g (off+i*E) (j-i) E b bs (cap-i) hβ zo ⟨c',t',hb1,?_⟩
  have:i*E+(cap-i)*E=cap*E:=by rw[<- Nat.add_mul];congr 1;omega
  omega;have hji:j=i:=zo;subst hji;simp only[Nat.lt_irrefl,if_false,Nat.sub_self]
  by_cases hci:cap=j
  simp only[hci,if_true];exact .slice .any false E [] b (bs+off) _ (λ_=>undef) zS zS zS (by simp[flat]) (by simp[flat]);simp only[hci,if_false,Option.map_some,Addr.add_lit];exact .slice .any false E [] b _ _ (λ_=>undef) zS zS zS (by simp[flat]) (by simp[flat]);simp at h;simp at h
 rename_i e hu;cases hx
 have fin:∀ lo hi mx,(Instr.sliceBounds true 0 0 lo hi mx).run P w=.ok (0,0,0) w->(Z9a P e).isSome=true->(Instr.sliceAt t (.slice none 0 0) lo hi mx).run P w=.ok (.slice none 0 0) w:=by
  intro lo hi mx hb hs;obtain⟨n,hs⟩:=Option.isSome_iff_exists.1 hs;simp[Instr.sliceAt,Instr.slice,Zd hu,hb,Zda hs]
 split at h
 rename_i b1 b2 b3
 split at h
 rename_i hs;simp at h;subst h;exact⟨_,fin _ _ _ (Zpc h1 h2 h3 b1 b2 b3 (.inl rfl) (Nat.le_refl _) (Nat.le_refl _) (Nat.le_refl _)) hs,.nils⟩;simp at h;rename_i b1 b2 b3
 split at h
 rename_i hs;simp at h;subst h;exact⟨_,fin _ _ _ (Zpc h1 h2 h3 b1 b2 b3 (.inr zS) (Nat.le_refl _) (Nat.le_refl _) (Nat.le_refl _)) hs,.nils⟩;simp at h;simp at h;simp at h
end
end Go.Hs
