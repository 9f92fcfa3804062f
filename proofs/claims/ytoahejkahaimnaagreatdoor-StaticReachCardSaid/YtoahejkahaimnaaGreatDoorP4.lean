/- A part. No condition. -/
import Derived.Test.YtoahejkahaimnaaGreatDoorP3
import Derived.Laws.Small
import Derived.Laws.Cover1
import Derived.MapKept
set_option linter.all false
namespace Go.Hs
section
variable{P:Program}{X:Cx}{w:World}
def lenV(P:Program)(t:TypeId)(a:V):Option V:=
 match P.underlying t,a with
 |some .string,.str s=>some (.int .i64 s.length)
 |some (.slice _),.nils=>some (.int .i64 0)
 |some (.slice _),.slice _ _ _ l=>some (.int .i64 l.length)
 |some (.slice _),.msl _ _ _ len _=>some (.int .i64 len)
 |some (.array n _),_=>some (.int .i64 n)
 |some (.map _ _),.nilm=>some (.int .i64 0)
 |_,_=>none
theorem Zjma{t:TypeId}{a v:V}{x:Value}{ats:Array TypeId}{ty:TypeId}(ht:ats[0]?=some t)(hx:Rel X x a)(h:lenV P t a=some v):
  ∃ c,(Builtin.len_ ats ty #[x]).run P w=.ok c w/\Rel X c v:=by
 unfold lenV at h
 split at h<;>simp only[Option.some.injEq,reduceCtorEq]at h<;>subst h<;>rename_i hu
 obtain⟨q,rfl,rfl⟩:=hx.str_inv;refine⟨.int .i64 q.size,by simp[Builtin.len_,ht,Zd hu,goInt],?_⟩;have:q.size=q.data.toList.length:=(Array.length_toList (xs:=q.data)).symm;rw[this];exact .int _ _;cases hx;exact⟨.int .i64 0,by simp[Builtin.len_,ht,Zd hu,goInt],.int _ _⟩
 cases hx<;>exact⟨.int .i64 _,by simp[Builtin.len_,ht,Zd hu,goInt];try rfl,.int _ _⟩
 cases hx;exact⟨.int .i64 _,by simp[Builtin.len_,ht,Zd hu,goInt],.int _ _⟩;exact⟨.int .i64 _,by simp[Builtin.len_,ht,Zd hu,goInt],.int _ _⟩;cases hx;exact⟨.int .i64 0,by simp[Builtin.len_,ht,Zd hu,goInt],.int _ _⟩
structure RelC(X:Cx)(xs:List Value)(l:List V):Prop where
 len:xs.length=l.length
 one:∀ x∈xs,x.oneCell'=true
 rel:∀ i (h1:i<xs.length) (h2:i<l.length),Rel X xs[i] l[i]
theorem RelC.nil:RelC X [] []:=⟨rfl,zS,zS⟩
theorem Z9c{x:Value}{v:V}{xs:List Value}{l:List V}(ho:x.oneCell'=true)(h:Rel X x v)(hr:RelC X xs l):RelC X (x::xs) (v::l) where
 len:=by simp[hr.len]
 one:=λy hy=>by
  cases hy with
  |head=>exact ho
  |tail _ hy=>exact hr.one y hy
 rel:=λi h1 h2=>by
  cases i with
  |zero=>exact h
  |succ i=>exact hr.rel i (zu h1) (zu h2)
theorem RelC.append{xs ys:List Value}{l m:List V}(h:RelC X xs l)(k:RelC X ys m):RelC X (xs++ys) (l++m) where
 len:=by simp[h.len,k.len]
 one:=λy hy=>by
  rcases List.mem_append.1 hy with hy|hy
  exact h.one y hy;exact k.one y hy
 rel:=λi h1 h2=>by
  have hl:=h.len
  by_cases hi:i<xs.length
  rw[List.getElem_append_left hi,List.getElem_append_left zo];exact h.rel _ _ _;rw[List.getElem_append_right zo,List.getElem_append_right zo];have:=k.rel (i-xs.length) (by simp at h1;omega) (by simp at h2;omega);simpa[hl]using this
theorem RelC.take{xs:List Value}{l:List V}(h:RelC X xs l)(n:Nat):RelC X (xs.take n) (l.take n) where
 len:=by simp[h.len]
 one:=λy hy=>h.one y (List.mem_of_mem_take hy)
 rel:=λi h1 h2=>by rw[List.getElem_take,List.getElem_take];exact h.rel _ _ _
theorem RelC.drop{xs:List Value}{l:List V}(h:RelC X xs l)(n:Nat):RelC X (xs.drop n) (l.drop n) where
 len:=by simp[h.len]
 one:=λy hy=>h.one y (List.mem_of_mem_drop hy)
 rel:=λi h1 h2=>by rw[List.getElem_drop,List.getElem_drop];exact h.rel _ _ _
theorem RelC.set{xs:List Value}{l:List V}(h:RelC X xs l)(n:Nat){x:Value}{v:V}(ho:x.oneCell'=true)(hr:Rel X x v):RelC X (xs.set n x) (l.set n v) where
 len:=by simp[h.len]
 one:=λy hy=>by
  rcases List.mem_or_eq_of_mem_set hy with hy|rfl
  exact h.one y hy;exact ho
 rel:=λi h1 h2=>by
  rw[List.getElem_set,List.getElem_set]
  split
  exact hr;exact h.rel _ _ _
theorem RelC.toAgg{xs:List Value}{l:List V}(h:RelC X xs l):Rel X (.agg xs.toArray) (.agg l):=
 .agg _ _ (zu h.len) (zu h.one) (λi h1 h2=>by simpa using h.rel i (zu h1) h2)
theorem RelC.mono{Y:Cx}(hle:X.le Y){xs:List Value}{l:List V}(h:RelC X xs l):RelC Y xs l:=
 ⟨h.len,h.one,λi h1 h2=>(h.rel i h1 h2).mono hle⟩
def V.solid:V->Bool
 |.top|.tuple _=>false
 |_=>true
theorem Rel.toC{x:Value}{v:V}(h:Rel X x v)(hs:v.solid=true):RelC X x.cells.toList v.cells:=by
 cases h<;>try(simp[V.solid]at hs;done)
 case agg xs l hx ho hr=>exact⟨by simpa[Value.cells,V.cells]using hx,by simpa[Value.cells]using ho,λi h1 h2=>by
  have h1':i<xs.size:=by simpa[Value.cells]using h1
  have:=hr i h1' h2
  show Rel X (xs.toList[i]'(zu h1')) l[i]
  rw[Array.getElem_toList]
  exact this⟩
 all_goals refine Z9c rfl ?_ RelC.nil
 case bool=>exact .bool _
 case int=>exact .int _ _
 case str h=>exact .str _ _ h
 case nilp=>exact .nilp
 case view hc hr=>exact .view _ _ _ _ _ hc hr
 case ptr h=>exact .ptr _ _ _ _ _ h
 case nils=>exact .nils
 case slice hcap hclip hE hc hr=>exact .slice _ _ _ _ _ _ _ _ hcap hclip hE hc hr
 case slice0=>exact .slice0 _ _ _ _
 case msl h hcap hb=>exact .msl _ _ _ _ _ _ _ _ h hcap hb
 case func hx hy hxr hyr=>exact .func _ _ _ _ _ hx hy hxr hyr
 case nilf=>exact .nilf
 case iface h=>exact .iface _ _ _ h
 case nili=>exact .nili
 case nilm=>exact .nilm
 case mref=>exact .mref _ _
 case mapv hs0 hb hk hv hkr hvr=>exact .mapv _ _ _ _ _ hs0 hb hk hv hkr hvr
def setAt(cells:List V)(off:Nat):List V->List V
 |[]=>cells
 |v::r=>setAt (cells.set off v) (off+1) r
def Zlj(cells:List Value)(off:Nat):List Value->List Value
 |[]=>cells
 |v::r=>Zlj (cells.set off v) (off+1) r
theorem Zll:∀ {vs:List Value} {ms:List V} {xs:List Value} {l:List V} (off:Nat),RelC X xs l->RelC X vs ms->RelC X (Zlj xs off vs) (Hs.setAt l off ms)
 |[],[],xs,l,off,h,_=>h
 |[],_::_,_,_,_,_,k=>by have:=k.len;simp at this
 |_::_,[],_,_,_,_,k=>by have:=k.len;simp at this
 |x::vs,v::ms,xs,l,off,h,k=>by
  have h0:=k.rel 0 zS zS;have ho:=k.one x zS;have hk:RelC X vs ms:=⟨by have:=k.len;simpa using this,λy hy=>k.one y (by simp[hy]),λi h1 h2=>k.rel (i+1) (zu h1) (zu h2)⟩;exact Zll (off+1) (h.set off ho h0) hk
theorem Ztl:∀ (vs:List Value) (k:Nat) (cs:Array Value) (off:Nat),
  ((vs.zipIdx k).foldl (λcs (p:Value×Nat)=>cs.setIfInBounds (off+p.2) p.1) cs).toList=Zlj cs.toList (off+k) vs
 |[],k,cs,off=>rfl
 |v::r,k,cs,off=>by
  rw[List.zipIdx_cons,List.foldl_cons,Ztl r (k+1)];simp[Zlj,Nat.add_assoc]
def Zre(P:Program)(t:TypeId):Option V:=(P.info? t).bind λi=>i.zero.bind Zc0
theorem Z0e{t:TypeId}{v:V}(h:Zre P t=some v):∃ x,(zeroValue t).run P w=.ok x w/\Rel X x v:=by
 unfold Zre at h
 cases hi:P.info? t with
 |none=>simp[hi]at h
 |some i=>
  simp only[hi,Option.bind_some]at h
  cases hz:i.zero with
  |none=>simp[hz]at h
  |some x=>
   simp only[hz,Option.bind_some]at h;exact⟨x,by simp[zeroValue,typeInfo,hi,hz],Zrn X h⟩
def Zsd(place:Nat->Option (Nat×Nat))(cells:List V):List (Nat×V)->Option (List V)
 |[]=>some cells
 |(i,v)::rest=>
  match place i with
  |none=>none
  |some (off,size)=>
   if v.solid=true/\v.cells.length=size/\off+size<=cells.length then Zsd place (setAt cells off v.cells) rest else none
theorem Zjf:∀ (vs:List V) (cells:List V) (off:Nat),(setAt cells off vs).length=cells.length
 |[],_,_=>rfl
 |v::r,cells,off=>by simp[setAt,Zjf r]
theorem Zck(place:Nat->Option (Nat×Nat)):∀ (parts:List (Nat×V)) (ps:List (Nat×Value)) (cells:List V) (xs:Array Value) (l:List V),
  ps.length=parts.length->(∀ i (h1:i<ps.length) (h2:i<parts.length),ps[i].1=parts[i].1/\Rel X ps[i].2 parts[i].2)->RelC X xs.toList cells->Zsd place cells parts=some l ->
  ∃ ys,Instr.fill place xs ps=some ys/\RelC X ys.toList l
 |[],ps,cells,xs,l,hl,_,hC,h=>by
  simp at hl;subst hl;simp[Zsd]at h;subst h;exact⟨xs,rfl,hC⟩
 |(i,v)::rest,[],_,_,_,hl,_,_,_=>by simp at hl
 |(i,v)::rest,(j,x)::ps,cells,xs,l,hl,hr,hC,h=>by
  obtain⟨hji,hxv⟩:=hr 0 zS zS;simp only[List.getElem_cons_zero]at hji hxv;subst hji;simp only[Zsd]at h
  cases hp:place j with
  |none=>simp[hp]at h
  |some p=>
   obtain⟨off,size⟩:=p;simp only[hp]at h
   split at h
   rename_i hc;obtain⟨h1,h2,h3⟩:=hc;have hxC:=hxv.toC h1;have hlen:=hC.len;have hxl:=hxC.len
   obtain⟨ys,hys,hrel⟩:=Zck place rest ps (setAt cells off v.cells) (x.cells.zipIdx.foldl (λcs (p:Value×Nat)=>cs.setIfInBounds (off+p.2) p.1) xs) l (zu hl)
    (λi a b=>by have:=hr (i+1) (zu a) (zu b);simpa using this)
    (by
     have e:(x.cells.zipIdx.foldl (λcs (p:Value×Nat)=>cs.setIfInBounds (off+p.2) p.1) xs).toList=Zlj xs.toList off x.cells.toList:=by
      have:=Ztl x.cells.toList 0 xs off;rw[<- Array.foldl_toList,Array.toList_zipIdx];simpa using this
     rw[e]
     exact Zll off hC hxC) h
   refine⟨ys,?_,hrel⟩;simp only[Instr.fill,hp]
   have hsz:x.cells.size=size:=by simp at hxl;omega
   rw[if_neg (by simp at hlen;simp[hsz];omega)];exact hys;simp at h
def Zff(P:Program)(t:TypeId)(parts:List (Nat×V)):Option V:=
 match P.underlying t,Zre P t with
 |some (.struct fs),some z=>if(fs.toList.all λf=>(Z9a P f.type).isSome)&&z.solid then(Zsd (λi=>(fs[i]?).bind λf=>(Z9a P f.type).map λn=>(f.offset,n)) z.cells parts).map .agg else none
 |some (.array _ e),some z=>match Z9a P e with
  |some n=>if z.solid then(Zsd (λi=>some (i*n,n)) z.cells parts).map .agg else none
  |none=>none
 |_,_=>none
theorem Zi9(fs:List Field)(h:(fs.all λf=>(Z9a P f.type).isSome)=true):
  (fs.mapM λf=>(do pure (f.offset,<- sizeOf f.type):Sem (Nat×Nat))).run P w=.ok (fs.map λf=>(f.offset,(Z9a P f.type).getD 0)) w:=by
 induction fs with
 |nil=>simp
 |cons f r ih=>
  simp only[List.all_cons,Bool.and_eq_true]at h;obtain⟨n,hn⟩:=Option.isSome_iff_exists.1 h.1;simp only[List.mapM_cons,Sem.run_bind,Zda hn,Result.andThen_ok,Sem.run_pure,ih h.2,List.map_cons,hn,Option.getD_some]
theorem Zwaa{t:TypeId}{parts:List (Nat×V)}{ps:Array (Nat×Value)}{v:V}(hl:ps.toList.length=parts.length)
  (hr:∀ i (h1:i<ps.toList.length) (h2:i<parts.length),ps.toList[i].1=parts[i].1/\Rel X ps.toList[i].2 parts[i].2) (h:Zff P t parts=some v):
  ∃ c,(Instr.build t ps).run P w=.ok c w/\Rel X c v:=by
 unfold Zff at h
 split at h
 rename_i fs z hu hz
 split at h
 rename_i hc;simp only[Bool.and_eq_true]at hc;obtain⟨hsz,hsol⟩:=hc;simp only[Option.map_eq_some_iff]at h;obtain⟨l,h,rfl⟩:=h;obtain⟨x,hx,hxr⟩:=Z0e (X:=X) (w:=w) hz;obtain⟨ys,hys,hrel⟩:=Zck _ parts ps.toList z.cells x.cells l hl hr (hxr.toC hsol) h;refine⟨.agg ys,?_,by have:=hrel.toAgg;simpa using this⟩
 have hm:(fs.mapM λf=>(do pure (f.offset,<- sizeOf f.type):Sem (Nat×Nat))).run P w=.ok (fs.map λf=>(f.offset,(Z9a P f.type).getD 0)) w:=by
  rw[Array.mapM_eq_mapM_toList,Sem.run_map,Zi9 fs.toList hsz,Result.andThen_ok];rw[<- Array.toList_map]
 have hplace:(fun(i:Nat)=>(fs.map fun(f:Field)=>(f.offset,(Z9a P f.type).getD 0))[i]?)=λi=>(fs[i]?).bind λf=>(Z9a P f.type).map λn=>(f.offset,n):=by
  funext i
  rw[Array.getElem?_map]
  cases hf:fs[i]? with
  |none=>rfl
  |some f=>
   have hmem:f∈fs.toList:=by
    rw[Array.getElem?_eq_some_iff]at hf;obtain⟨hi,rfl⟩:=hf;simp
   have:=List.all_eq_true.1 hsz f hmem;obtain⟨n,hn⟩:=Option.isSome_iff_exists.1 this;simp[hn]
 simp only[Instr.build,Sem.run_bind,hx,Result.andThen_ok,Zd hu,hm,hplace,hys,Sem.run_pure];simp at h;rename_i n e z hu hz
 split at h
 rename_i m hm
 split at h
 rename_i hsol;simp only[Option.map_eq_some_iff]at h;obtain⟨l,h,rfl⟩:=h;obtain⟨x,hx,hxr⟩:=Z0e (X:=X) (w:=w) hz;obtain⟨ys,hys,hrel⟩:=Zck _ parts ps.toList z.cells x.cells l hl hr (hxr.toC hsol) h;refine⟨.agg ys,?_,by have:=hrel.toAgg;simpa using this⟩;simp[Instr.build,hx,Zd hu,Zda hm,hys];simp at h;simp at h;simp at h
def Zec(P:Program)(t:TypeId)(a:V):Option V:=
 match a with
 |.view _ (.agg l)=>if Zof P t=some true/\Z9a P t=some l.length then some (.agg l)else none
 |.view _ .top=>none
 |.view _ (.tuple _)=>none
 |.view _ v=>if Zof P t=some false then some v else none
 |_=>none
theorem Zrl{t:TypeId}{a v:V}{x:Value}(hx:Rel X x a)(hw:X.w=w)(h:Zec P t a=some v):∃ c,(Instr.loadAt t x).run P w=.ok c w/\Rel X c v:=by
 subst hw;unfold Zec at h
 split at h
 rename_i c l
 split at h
 .rename_i hc
  simp at h;subst h
  cases hx with
  |view _ _ b off f h1 h2=>
   simp only[V.cells]at h1 h2
   have hl:=run_loadCells (P:=P) X.w ⟨b,off,none⟩ l.length f (λj hj=>by
    rw[Addr.add_lit];exact(h1 j hj).2.2.1)
   refine⟨.agg ((List.range l.length).map f).toArray,by simp[Instr.loadAt,Instr.sureAddr,loadVar,Z5f hc.1,Zda hc.2,hl],?_⟩;refine RelC.toAgg ⟨zS,?_,?_⟩;intro y hy;simp only[List.mem_map,List.mem_range]at hy;obtain⟨i,hi,rfl⟩:=hy;exact(h1 i hi).2.2.2;intro i hi1 hi2;simp only[List.getElem_map,List.getElem_range];exact h2 i hi2
 simp at h;simp at h;simp at h;rename_i c u hn1 hn2 hn3
 split at h
 .rename_i hc
  simp at h;subst h
  cases hx with
  |view _ _ b off f h1 h2=>
   have hcl:u.cells=[u]:=by
    cases u<;>first|rfl|(exfalso;simp at hn1)
   have a1:=h1 0 (by rw[hcl];simp);have a2:=h2 0 (by rw[hcl];simp);simp only[hcl,List.getElem_cons_zero]at a2;refine⟨f 0,?_,a2⟩;have hcell:X.w.cell? ⟨b,off,none⟩=some (f 0):=a1.2.2.1;simp[Instr.loadAt,Instr.sureAddr,loadVar,Z5f hc,hcell]
 simp at h;simp at h
def maxL:List V->Option V
 |[.int k x,.int _ y]=>some (.int k (if y>x then y else x))
 |[.int k x,.int _ y,.int _ z]=>some (.int k (if z>(if y>x then y else x)then z else(if y>x then y else x)))
 |_=>none
def minL:List V->Option V
 |[.int k x,.int _ y]=>some (.int k (if y<x then y else x))
 |_=>none
def Zqg:TypeDesc->V->List V->List V->Option (Option V)
 |.int _,.int _ _,[],[]=>some none
 |.string,.str _,[],[]=>some none
 |.int q,.int k a,.int k' b::ks,v::vs=>if k=k' then(if a=b then some (some v)else Zqg (.int q) (.int k a) ks vs)else none
 |.string,.str a,.str b::ks,v::vs=>if a=b then some (some v)else Zqg .string (.str a) ks vs
 |_,_,_,_=>none
theorem Zsv{X:Cx}{d:TypeDesc}{c:Value}{x:V}(hx:Rel X c x):∀ (l:List MapEntry) (ks vs:List V) (i:Nat) (r:Option V),Zqg d x ks vs=some r->l.length=ks.length->l.length=vs.length ->
  (∀ i (h1:i<l.length) (h2:i<ks.length),Rel X l[i].key ks[i])->(∀ i (h1:i<l.length) (h2:i<vs.length),Rel X l[i].val vs[i]) ->
  match r with
  |none=>Instr.findNow d c l i=some none
  |some v=>∃ j y,Instr.findNow d c l i=some (some (j,y))/\Rel X y v
 |[],ks,vs,i,r,h,h1,h2,hk,hv=>by
  cases ks with
  |cons=>simp at h1
  |nil=>
   cases vs with
   |cons=>simp at h2
   |nil=>
    cases d<;>cases x<;>simp only[Zqg,reduceCtorEq,Option.some.injEq]at h<;>subst h<;>rfl
 |e::l,ks,vs,i,r,h,h1,h2,hk,hv=>by
  cases ks with
  |nil=>simp at h1
  |cons k ks=>
   cases vs with
   |nil=>simp at h2
   |cons v vs=>
    have hk0:Rel X e.key k:=hk 0 zS zS;have hv0:Rel X e.val v:=hv 0 zS zS;have ih:=λr (h:Zqg d x ks vs=some r)=>Zsv hx l ks vs (i+1) r h (zu h1) (zu h2) (λj q1 q2=>by have:=hk (j+1) (zu q1) (zu q2);simpa using this) (λj q1 q2=>by have:=hv (j+1) (zu q1) (zu q2);simpa using this)
    cases d<;>cases x<;>(try simp only[Zqg,reduceCtorEq]at h)
    rename_i q kk a
    cases k<;>simp only[Zqg,reduceCtorEq]at h
    rename_i k' b;have hc:=hx.int_inv;have he:=hk0.int_inv
    split at h
    rename_i hkk;subst hkk
    split at h
    rename_i hab;subst hab;cases h;exact⟨i,e.val,by simp[Instr.findNow,Instr.sameNow,hc,he],hv0⟩;rename_i hab
    have hstep:Instr.findNow (.int q) c (e::l) i=Instr.findNow (.int q) c l (i+1):=by have hb:(a==b)=false:=beq_false_of_ne hab;simp only[Instr.findNow,Instr.sameNow,hc,he,if_true,hb]
    rw[hstep];exact ih r h;cases h
    .rename_i a
     cases k<;>simp only[Zqg,reduceCtorEq]at h
     rename_i b
     obtain⟨s,rfl,hs⟩:∃ s,c=.string s/\s.data.toList=a:=by cases hx with|str s _ hs=>exact⟨s,rfl,hs⟩
     generalize hek:e.key=ek at hk0
     cases hk0 with
     |str s' _ hs'=>
     split at h
     rename_i hab;cases h;have:s=s':=ByteArray.ext (Array.ext' (by rw[hs,hs',hab]));subst this;have hb:(s==s)=true:=(MapKept.bytes_beq _ _).2 rfl;exact⟨i,e.val,by simp only[Instr.findNow,Instr.sameNow,hek,hb],hv0⟩;rename_i hab;have hne:¬ s=s':=λhh=>hab (by rw[<- hs,<- hs',hh])
     have hb:(s==s')=false:=by rw[Bool.eq_false_iff];exact λhh=>hne ((MapKept.bytes_beq _ _).1 hh)
     have hstep:Instr.findNow .string (.string s) (e::l) i=Instr.findNow .string (.string s) l (i+1):=by simp only[Instr.findNow,Instr.sameNow,hek,hb]
     rw[hstep];exact ih r h
def Zdma:V->Option (List V×List V)
 |.mapv ks vs=>some (ks,vs)
 |.nilm=>some ([],[])
 |_=>none
def Zam(P:Program)(t:TypeId)(m x:V)(ok:Bool):Option V:=
 match P.underlying t,Zdma m with
 |some (.map kt et),some (ks,vs)=>match P.underlying kt with
  |some kd=>match Zqg kd x ks vs with
   |some (some v)=>some (if ok then .tuple [v,.bool true]else v)
   |some none=>(Zre P et).map λz=>if ok then .tuple [z,.bool false]else z
   |none=>none
  |none=>none
 |_,_=>none
theorem Rel.two{X:Cx}{x:Value}{v:V}(h:Rel X x v)(b:Bool):Rel X (.tuple #[x,.bool b]) (.tuple [v,.bool b]):=
 .tuple _ _ rfl (λi h1 h2=>by
  match i,h2 with
  |0,_=>exact h
  |1,_=>exact .bool b)
theorem Z3o{w:World}{e:Bool}{kt:TypeId}{kd:TypeDesc}{c:Value}{x:V}{ks vs:List V}{r:Option V}(hu:P.underlying kt=some kd)(hf:Zqg kd x ks vs=some r):(Instr.checkKey e 10000 kt c).run P w=.ok () w:=by
 have hkd:(∃ q,kd=.int q)\/kd=.string:=by
  cases kd<;>cases x<;>simp[Zqg]at hf⊢
 rcases hkd with ⟨q,rfl⟩|rfl
 unfold Instr.checkKey;simp only[Sem.run_bind,Zd hu,Result.andThen_ok];rfl;unfold Instr.checkKey;simp only[Sem.run_bind,Zd hu,Result.andThen_ok];rfl
theorem Zf6{X:Cx}{kt et:TypeId}{kd:TypeDesc}{x:V}{cx:Value}{ok:Bool}{v:V}{ks vs:List V}(hx:Rel X cx x)(hkd:P.underlying kt=some kd)
  (h:(match Zqg kd x ks vs with
   |some (some v)=>some (if ok then .tuple [v,.bool true]else v)
   |some none=>(Zre P et).map λz=>if ok then .tuple [z,.bool false]else z
   |none=>none)=some v):∀ (es:Array MapEntry),es.size=ks.length->es.size=vs.length->(∀ i (h1:i<es.size) (h2:i<ks.length),Rel X es[i].key ks[i])->(∀ i (h1:i<es.size) (h2:i<vs.length),Rel X es[i].val vs[i]) ->
   ∃ c,(Instr.checkKey es.isEmpty 10000 kt cx).run P X.w=.ok () X.w/\((∃ j y,(Instr.findKey kt cx es.toList).run P X.w=.ok (some (j,y)) X.w/\c=if ok then .tuple #[y,.bool true]else y) \/
    ((Instr.findKey kt cx es.toList).run P X.w=.ok none X.w/\∃ cz,(zeroValue et).run P X.w=.ok cz X.w/\c=if ok then .tuple #[cz,.bool false]else cz))/\Rel X c v:=by
 intro es hl1 hl2 hr1 hr2
 have hfind:∀ r,Zqg kd x ks vs=some r->match r with
   |none=>(Instr.findKey kt cx es.toList).run P X.w=.ok none X.w
   |some v=>∃ j y,(Instr.findKey kt cx es.toList).run P X.w=.ok (some (j,y)) X.w/\Rel X y v:=by
  intro r hr;have:=Zsv hx es.toList ks vs 0 r hr (zu hl1) (zu hl2) (λi h1 h2=>by simpa using hr1 i (zu h1) h2) (λi h1 h2=>by simpa using hr2 i (zu h1) h2)
  cases r with
  |none=>
   simp only at this⊢;simp only[Instr.findKey,Sem.run_bind,Zd hkd,Result.andThen_ok,this,Sem.run_pure]
  |some v=>
   obtain⟨j,y,h1,h2⟩:=this;exact⟨j,y,by simp only[Instr.findKey,Sem.run_bind,Zd hkd,Result.andThen_ok,h1,Sem.run_pure],h2⟩
 split at h
 rename_i u hf;obtain⟨j,y,h1,h2⟩:=hfind _ hf;cases h;refine⟨if ok then .tuple #[y,.bool true]else y,Z3o hkd hf,.inl ⟨j,y,h1,rfl⟩,?_⟩;cases ok;exact h2;exact h2.two true
 .rename_i hf
  have h1:=hfind _ hf;simp only at h1
  cases hz:Zre P et with
  |none=>rw[hz]at h;cases h
  |some z=>
   rw[hz]at h;cases h;obtain⟨cz,hz1,hz2⟩:=Z0e (X:=X) (w:=X.w) hz;refine⟨if ok then .tuple #[cz,.bool false]else cz,Z3o hkd hf,.inr ⟨h1,cz,hz1,rfl⟩,?_⟩;cases ok;exact hz2;exact hz2.two false
 cases h
theorem Z6u{X:Cx}{t:TypeId}{m x:V}{cm cx:Value}{ok:Bool}{v:V}(hm:Rel X cm m)(hx:Rel X cx x)(h:Zam P t m x ok=some v):∃ c,(Instr.lookup t cm cx ok).run P X.w=.ok c X.w/\Rel X c v:=by
 unfold Zam at h
 split at h
 rotate_left;cases h;rename_i kt et ks vs hu hkv
 split at h
 rotate_left;cases h;rename_i kd hkd;have key:=Zf6 (X:=X) (cx:=cx) hx hkd h
 cases hm<;>simp only[Zdma,reduceCtorEq,Option.some.injEq,Prod.mk.injEq]at hkv
 obtain⟨rfl,rfl⟩:=hkv;obtain⟨c,h0,h1,h2⟩:=key #[] rfl rfl (λi h1 h2=>by simp at h2) (λi h1 h2=>by simp at h2);refine⟨c,?_,h2⟩
 rcases h1 with ⟨j,y,h1,rfl⟩|⟨h1,cz,h3,rfl⟩
 simp only[Instr.lookup,Sem.run_bind,Zd hu,Result.andThen_ok,Sem.run_pure,h0,h1];simp only[Instr.lookup,Sem.run_bind,Zd hu,Result.andThen_ok,Sem.run_pure,h0,h1,h3];rename_i b n es ks' vs' hs' hb hk hv hkr hvr;obtain⟨rfl,rfl⟩:=hkv;obtain⟨c,h0,h1,h2⟩:=key es hk hv hkr hvr;refine⟨c,?_,h2⟩
 have hg:(getObj b).run P X.w=.ok (.map es n) X.w:=by simp[getObj,Sem.run,hb]
 rcases h1 with ⟨j,y,h1,rfl⟩|⟨h1,cz,h3,rfl⟩
 simp only[Instr.lookup,Sem.run_bind,Zd hu,Result.andThen_ok,Sem.run_pure,hg,h0,h1];simp only[Instr.lookup,Sem.run_bind,Zd hu,Result.andThen_ok,Sem.run_pure,hg,h0,h1,h3]
def Z70(P:Program)(x:V)(T:TypeId)(ok:Bool):Option V:=
 match P.underlying T with
 |some (.interface _)=>none
 |none=>none
 |some _=>match x with
  |.iface t v=>if t=T then some (if ok then .tuple [v,.bool true]else v)else if ok=true then(Zre P T).map λz=>.tuple [z,.bool false]else none
  |.nili=>if ok=true then(Zre P T).map λz=>.tuple [z,.bool false]else none
  |_=>none
theorem Z60{X:Cx}{x:V}{c:Value}{xT T:TypeId}{ok:Bool}{v:V}(hx:Rel X c x)(h:Z70 P x T ok=some v):∃ c',(Instr.typeAssert c xT T ok).run P X.w=.ok c' X.w/\Rel X c' v:=by
 unfold Z70 at h
 have fails:∀ {z},(Zre P T).map (λz=>V.tuple [z,.bool false])=some z->∃ c',(do pure (.tuple #[<- zeroValue T,.bool false]):Sem Value).run P X.w=.ok c' X.w/\Rel X c' z:=by
  intro z hz
  cases hq:Zre P T with
  |none=>rw[hq]at hz;cases hz
  |some u=>
   rw[hq]at hz;cases hz;obtain⟨cz,h1,h2⟩:=Z0e (X:=X) (w:=X.w) hq;exact⟨_,by simp only[Sem.run_bind,h1,Result.andThen_ok,Sem.run_pure],h2.two false⟩
 cases hu:P.underlying T with
 |none=>rw[hu]at h;cases h
 |some d=>
  rw[hu]at h
  cases d<;>simp only[reduceCtorEq]at h
  all_goals
   cases x<;>simp only[reduceCtorEq]at h
   .rename_i t u
    generalize c=c at hx
    cases hx with
    |iface _ y _ hy=>
     by_cases ht:t=T
     rw[if_pos ht]at h;cases h;refine⟨if ok then .tuple #[y,.bool true]else y,?_,?_⟩;simp only[Instr.typeAssert,Sem.run_bind,Zd hu,Result.andThen_ok,if_pos ht,Sem.run_pure];cases ok;exact hy;exact hy.two true
     .rw[if_neg ht]at h
      cases ok with
      |false=>simp at h
      |true=>
       simp only[if_true]at h;obtain⟨c',h1,h2⟩:=fails h;refine⟨c',?_,h2⟩;simp only[Instr.typeAssert,Sem.run_bind,Zd hu,Result.andThen_ok,if_neg ht,if_true];simpa only[Sem.run_bind]using h1
   .generalize c=c at hx
    cases hx with
    |nili=>
     cases ok with
     |false=>simp at h
     |true=>
      simp only[if_true]at h;obtain⟨c',h1,h2⟩:=fails h;refine⟨c',?_,h2⟩;simp only[Instr.typeAssert,Sem.run_bind,Zd hu,Result.andThen_ok,if_true];simpa only[Sem.run_bind]using h1
def opV(P:Program)(ρ : Operand->V)(o:Oper):Option V:=
 match o.op with
 |.move x|.assign x=>some (ρ x)
 |.pick c a b=>match ρ c with
  |.bool true=>some (ρ a)
  |.bool false=>some (ρ b)
  |_=>none
 |.binOp op t x y _=>Zvm P op t (ρ x) (ρ y)
 |.unOp op _ x=>unV op (ρ x)
 |.convert src dst x=>Zx0 P src dst (ρ x)
 |.extract t i=>match ρ t with
  |.tuple vs=>vs[i]?
  |_=>none
 |.field t x f=>Zeha P t (ρ x) f
 |.build t parts=>Zff P t (parts.toList.map λp=>(p.1,ρ p.2))
 |.fieldAddr t x f=>Z2d P t (ρ x) f
 |.indexAddr t x i=>Zyb P t (ρ x) (ρ i)
 |.index t x i=>Zih P t (ρ x) (ρ i)
 |.slice t x lo hi mx=>Zge P t (ρ x) (lo.map ρ) (hi.map ρ) (mx.map ρ)
 |.makeFunc fn first cap=>some (.func fn (first.toList.map ρ) (cap.toList.map ρ))
 |.makeInterface t x=>match P.underlying t with
  |some (.interface _)=>none
  |some _=>some (.iface t (ρ x))
  |none=>none
 |.nilCheck x=>match ρ x with
  |.view c v=>some (.view c v)
  |.ptr o g off=>some (.ptr o g off)
  |.func (.func f) a b=>some (.func (.func f) a b)
  |_=>none
 |.load t x=>Zec P t (ρ x)
 |.lookup t m x ok=>Zam P t (ρ m) (ρ x) ok
 |.typeAssert x _ T ok=>Z70 P (ρ x) T ok
 |.call { callee:=.builtin .len,args,argTypes }=>match args.toList,argTypes[0]? with
  |[x],some t=>lenV P t (ρ x)
  |_,_=>none
 |.call { callee:=.builtin .max,args,.. }=>maxL (args.toList.map ρ)
 |.call { callee:=.builtin .min,args,.. }=>minL (args.toList.map ρ)
 |_=>none
theorem opV_run{ρ : Operand->V}{ρc:Operand->Value}{o:Oper}{v:V}(hw:X.w=w)(hρ : ∀ x,Rel X (ρc x) (ρ x))(h:opV P ρ o=some v):
  ∃ c,(execOp ρc o).run P w=.ok (.value c) w/\Rel X c v:=by
 obtain⟨dst,op,type,pos,after,guard⟩:=o
 have lift:∀ (s:Sem Value),(∃ c,s.run P w=.ok c w/\Rel X c v)->∃ c,(do pure (Next.value (<- s)):Sem Next).run P w=.ok (.value c) w/\Rel X c v:=by
  intro s ⟨c,hc,hr⟩;exact⟨c,by simp[hc],hr⟩
 cases op<;>simp only[opV,reduceCtorEq]at h<;>simp only[execOp]
 case move x=>simp at h;subst h;exact⟨_,rfl,hρ _⟩
 case assign x=>simp at h;subst h;exact⟨_,rfl,hρ _⟩
 case pick c a b=>
  have hc:=hρ c
  split at h<;>simp at h<;>subst h<;>rename_i hcv<;>rw[hcv]at hc<;>have:=hc.bool_inv
  exact⟨ρc a,by simp[this,asBool],hρ _⟩;exact⟨ρc b,by simp[this,asBool],hρ _⟩
 case binOp op t x y yt=>exact lift _ (Zona x y (hρ x) (hρ y) h)
 case unOp op t x=>exact lift _ (unV_run (hρ x) h)
 case convert s d x=>exact lift _ (Zxha (hρ x) h)
 case extract t i=>
  have ht:=hρ t
  split at h
  .rename_i vs htv
   rw[htv]at ht;generalize ρc t=q at *
   cases ht with
   |tuple xs _ hx hr=>
    rw[List.getElem?_eq_some_iff]at h;obtain⟨hi,rfl⟩:=h
    have:xs[i]?=some (xs[i]'zo):=by simp[hx,hi]
    exact lift _ ⟨xs[i]'zo,by simp[Instr.extract,this],hr i zo hi⟩
  simp at h
 case field t x f=>exact lift _ (Zdaa (hρ x) h)
 case build t parts=>
  refine lift _ (Zwaa zS ?_ h);intro i h1 h2;simp at h1 h2⊢;exact hρ _
 case fieldAddr t x f=>exact lift _ (Zdq (hρ x) h)
 case indexAddr t x i=>exact lift _ (Zcq (hρ x) (hρ i) h)
 case index t x i=>exact lift _ (Z69 (hρ x) (hρ i) h)
 case slice t x lo hi mx=>
  have hO:∀ q:Option Operand,Zz4 X (q.map ρc) (q.map ρ):=λq=>by cases q<;>simp[Zz4,hρ]
  exact lift _ (Zc8 (hρ x) (hO lo) (hO hi) (hO mx) h)
 case makeFunc fn first cap=>
  simp at h;subst h;refine lift _ ⟨_,rfl,.func fn _ _ _ _ zS zS ?_ ?_⟩;intro i h1 h2;simp at h1 h2⊢;exact hρ _;intro i h1 h2;simp at h1 h2⊢;exact hρ _
 case makeInterface t x=>
  cases hu:P.underlying t with
  |none=>simp[hu]at h
  |some d=>
   rw[hu]at h;have hr:=Zd (w:=w) hu
   cases d<;>simp at h<;>subst h<;>exact lift _ ⟨.iface t (ρc x),by simp[Instr.makeInterface,hr],.iface _ _ _ (hρ x)⟩
 case nilCheck x=>
  have hx:=hρ x
  split at h<;>simp at h<;>subst h<;>rename_i hv<;>rw[hv]at hx<;>generalize ρc x=q at *
  .cases hx with
   |view _ _ b off f h1 h2=>exact⟨_,rfl,.view _ _ b off f h1 h2⟩
  .cases hx with
   |ptr _ _ _ b bs hβ => exact⟨_,rfl,.ptr _ _ _ b bs hβ⟩
  .cases hx with
   |func _ xs ys _ _ h1 h2 h3 h4=>exact⟨_,rfl,.func _ xs ys _ _ h1 h2 h3 h4⟩
 case load t x=>exact lift _ (Zrl (hρ x) hw h)
 case lookup t m x ok=>subst hw;exact lift _ (Z6u (hρ m) (hρ x) h)
 case typeAssert x xT T ok=>subst hw;exact lift _ (Z60 (hρ x) h)
 case call c=>
  obtain⟨callee,args,ats⟩:=c
  cases callee<;>(try simp only[reduceCtorEq]at h)
  rename_i b
  cases b<;>(try simp only[reduceCtorEq]at h)
  case len=>
   split at h
   rename_i x t hx ht
   have:args = #[x]:=by cases args;simp at hx;rw[hx]
   subst this;obtain⟨c,hc,hr⟩:=Zjma (w:=w) (ty:=type) ht (hρ x) h;refine⟨c,?_,hr⟩;simp[resolve,invoke,builtin,hc];simp at h
  case max=>
   obtain⟨l⟩:=args
   match l,h with
   |[x,y],h=>
    have hx:=hρ x;have hy:=hρ y;simp only[List.map_cons,List.map_nil]at h;generalize ρ x=a at *;generalize ρ y=b at *
    cases a<;>cases b<;>simp only[maxL,reduceCtorEq,Option.some.injEq]at h
    subst h;refine⟨_,?_,.int _ _⟩;simp[resolve,invoke,builtin,hx.int_inv,hy.int_inv];rfl
   |[x,y,z],h=>
    have hx:=hρ x;have hy:=hρ y;have hz:=hρ z;simp only[List.map_cons,List.map_nil]at h;generalize ρ x=a at *;generalize ρ y=b at *;generalize ρ z=c at *
    cases a<;>cases b<;>cases c<;>simp only[maxL,reduceCtorEq,Option.some.injEq]at h
    subst h;refine⟨_,?_,.int _ _⟩;simp[resolve,invoke,builtin,hx.int_inv,hy.int_inv,hz.int_inv];rfl
   |[],h=>simp[maxL]at h
   |[x],h=>simp[maxL]at h
   |_::_::_::_::_,h=>simp[maxL]at h
  case min=>
   obtain⟨l⟩:=args
   match l,h with
   |[x,y],h=>
    have hx:=hρ x;have hy:=hρ y;simp only[List.map_cons,List.map_nil]at h;generalize ρ x=a at *;generalize ρ y=b at *
    cases a<;>cases b<;>simp only[minL,reduceCtorEq,Option.some.injEq]at h
    subst h;refine⟨_,?_,.int _ _⟩;simp[resolve,invoke,builtin,hx.int_inv,hy.int_inv];rfl
   |[],h=>simp[minL]at h
   |[x],h=>simp[minL]at h
   |_::_::_::_,h=>simp[minL]at h
end
end Go.Hs
