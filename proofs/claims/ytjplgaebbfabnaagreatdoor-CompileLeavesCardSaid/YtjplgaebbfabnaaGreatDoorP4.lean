/- A part. No condition. -/
import Derived.Test.YtjplgaebbfabnaaGreatDoorP3
import Derived.Laws.Small
import Derived.Laws.Cover1
import Derived.MapKept
set_option linter.all false
namespace Go.Hs
section
variable{P:Program}{X:Cx}{w:World}
def F5(P:Program)(t:TypeId)(a:V):Option V:=
 match P.underlying t,a with
 |some .string,.str s=>some (.int .i64 s.length)
 |some (.slice _),.nils=>some (.int .i64 0)
 |some (.slice _),.slice _ _ _ l=>some (.int .i64 l.length)
 |some (.slice _),.msl _ _ _ len _=>some (.int .i64 len)
 |some (.array n _),_=>some (.int .i64 n)
 |some (.map _ _),.nilm=>some (.int .i64 0)
 |_,_=>none
theorem Zb7{t:TypeId}{a v:V}{x:Value}{f:Array TypeId}{ty:TypeId}(d:f[0]?=some t)(e:Rel X x a)(h:F5 P t a=some v):
  ∃ c,(Builtin.len_ f ty #[x]).run P w=.ok c w/\Rel X c v:=by
 unfold F5 at h
 split at h<;>simp only[Option.some.injEq,reduceCtorEq]at h<;>subst h<;>rename_i b
 obtain⟨q,rfl,rfl⟩:=e.str_inv;refine⟨.int .i64 q.size,by simp[Builtin.len_,d,Zk b,goInt],?_⟩;have:q.size=q.data.toList.length:=(Array.length_toList (xs:=q.data)).symm;rw[this];exact .int _ _;cases e;exact⟨.int .i64 0,by simp[Builtin.len_,d,Zk b,goInt],.int _ _⟩
 cases e<;>exact⟨.int .i64 _,by simp[Builtin.len_,d,Zk b,goInt];try rfl,.int _ _⟩
 cases e;exact⟨.int .i64 _,by simp[Builtin.len_,d,Zk b,goInt],.int _ _⟩;exact⟨.int .i64 _,by simp[Builtin.len_,d,Zk b,goInt],.int _ _⟩;cases e;exact⟨.int .i64 0,by simp[Builtin.len_,d,Zk b,goInt],.int _ _⟩
structure RelC(X:Cx)(xs:List Value)(l:List V):Prop where
 len:xs.length=l.length
 one:∀ x∈xs,x.oneCell'=true
 rel:∀ i (h1:i<xs.length) (h2:i<l.length),Rel X xs[i] l[i]
theorem RelC.nil:RelC X [] []:=⟨rfl,zS,zS⟩
theorem Us{x:Value}{v:V}{xs:List Value}{l:List V}(c:x.oneCell'=true)(h:Rel X x v)(b:RelC X xs l):RelC X (x::xs) (v::l) where
 len:=by simp[b.len]
 one:=λy a=>by
  cases a with
  |head=>grind
  |tail _ a=>exact b.one y a
 rel:=λi e d=>by
  cases i with
  |zero=>exact h
  |succ i=>exact b.rel i (by grind) (by grind)
theorem RelC.append{xs b:List Value}{l m:List V}(h:RelC X xs l)(k:RelC X b m):RelC X (xs++b) (l++m) where
 len:=by simp[h.len,k.len]
 one:=λy a=>by
  rcases List.mem_append.1 a with a|a
  exact h.one y a;exact k.one y a
 rel:=λi f e=>by
  have d:=h.len
  by_cases c:i<xs.length
  rw[List.getElem_append_left c,List.getElem_append_left zo];exact h.rel _ _ _;rw[List.getElem_append_right zo,List.getElem_append_right zo];have:=k.rel (i-xs.length) (by grind) (by grind)
  grind
theorem RelC.take{xs:List Value}{l:List V}(h:RelC X xs l)(n:Nat):RelC X (xs.take n) (l.take n) where
 len:=by simp[h.len]
 one:=λy a=>h.one y (List.mem_of_mem_take a)
 rel:=λi c b=>by rw[List.getElem_take,List.getElem_take];exact h.rel _ _ _
theorem RelC.drop{xs:List Value}{l:List V}(h:RelC X xs l)(n:Nat):RelC X (xs.drop n) (l.drop n) where
 len:=by simp[h.len]
 one:=λy a=>h.one y (List.mem_of_mem_drop a)
 rel:=λi c b=>by rw[List.getElem_drop,List.getElem_drop];exact h.rel _ _ _
theorem RelC.set{xs:List Value}{l:List V}(h:RelC X xs l)(n:Nat){x:Value}{v:V}(c:x.oneCell'=true)(b:Rel X x v):RelC X (xs.set n x) (l.set n v) where
 len:=by simp[h.len]
 one:=λy a=>by
  rcases List.mem_or_eq_of_mem_set a with a|rfl
  exact h.one y a
  grind
 rel:=λi e d=>by
  rw[List.getElem_set,List.getElem_set]
  split
  grind
  exact h.rel _ _ _
theorem RelC.toAgg{xs:List Value}{l:List V}(h:RelC X xs l):Rel X (.agg xs.toArray) (.agg l):=
 .agg _ _ (zu h.len) (zu h.one) (λi b a=>by simpa using h.rel i (by grind) a)
theorem RelC.mono{Y:Cx}(a:X.le Y){xs:List Value}{l:List V}(h:RelC X xs l):RelC Y xs l:=
 ⟨h.len,h.one,λi c b=>(h.rel i c b).mono a⟩
def V.solid:V->Bool
 |.top|.tuple _=>false
 |_=>true
theorem Rel.toC{x:Value}{v:V}(h:Rel X x v)(b:v.solid=true):RelC X x.cells.toList v.cells:=by
 cases h<;>try(simp[V.solid]at b)
 case agg xs l hx ho hr=>exact⟨by simpa[Value.cells,V.cells]using hx,by simpa[Value.cells]using ho,λi d c=>by
  have a:i<xs.size:=by simpa[Value.cells]using d
  have:=hr i a c
  exact this⟩
 all_goals refine Us rfl ?_ RelC.nil
 case bool=>exact .bool _
 case int=>exact .int _ _
 case str h=>exact .str _ _ h
 case nilp=>exact .nilp
 case view hc hr=>exact .view _ _ _ _ _ hc hr
 case ptr h=>exact .ptr _ _ _ _ _ h
 case nils=>exact .nils
 case slice hcap hclip hE hc hr=>exact .slice _ _ _ _ _ _ _ _ hcap hclip hE hc hr
 case slice0=>exact .slice0 _ _ _ _
 case msl h hcap hb=>exact .msl _ _ _ _ _ _ _ _ h hcap hb
 case func hx hy hxr hyr=>exact .func _ _ _ _ _ hx hy hxr hyr
 case nilf=>exact .nilf
 case iface h=>exact .iface _ _ _ h
 case nili=>exact .nili
 case nilm=>exact .nilm
 case mref=>exact .mref _ _
 case mapv hs0 hb hk hv hkr hvr=>exact .mapv _ _ _ _ _ hs0 hb hk hv hkr hvr
def setAt(cells:List V)(off:Nat):List V->List V
 |[]=>cells
 |v::r=>setAt (cells.set off v) (off+1) r
def Nj(cells:List Value)(off:Nat):List Value->List Value
 |[]=>cells
 |v::r=>Nj (cells.set off v) (off+1) r
theorem Ja:∀ {vs:List Value} {ms:List V} {xs:List Value} {l:List V} (off:Nat),RelC X xs l->RelC X vs ms->RelC X (Nj xs off vs) (Hs.setAt l off ms)
 |[],[],xs,l,off,h,_=>h
 |[],_::_,_,_,_,_,k=>by have:=k.len;simp at this
 |_::_,[],_,_,_,_,k=>by have:=k.len;simp at this
 |x::vs,v::ms,xs,l,off,h,k=>by
  have c:=k.rel 0 zS zS;have a:=k.one x zS;have b:RelC X vs ms:=⟨by have:=k.len;grind,λy d=>k.one y (by grind),λi f e=>k.rel (i+1) (by grind) (by grind)⟩;exact Ja (off+1) (h.set off a c) b
theorem Js:∀ (vs:List Value) (k:Nat) (cs:Array Value) (off:Nat),
  ((vs.zipIdx k).foldl (λcs (p:Value×Nat)=>cs.setIfInBounds (off+p.2) p.1) cs).toList=Nj cs.toList (off+k) vs
 |[],k,cs,off=>rfl
 |v::r,k,cs,off=>by
  rw[List.zipIdx_cons,List.foldl_cons,Js r (k+1)];simp[Nj,Nat.add_assoc]
def Uv(P:Program)(t:TypeId):Option V:=(P.info? t).bind λi=>i.zero.bind Cg
theorem Rc{t:TypeId}{v:V}(h:Uv P t=some v):∃ x,(zeroValue t).run P w=.ok x w/\Rel X x v:=by
 unfold Uv at h
 cases b:P.info? t with
 |none=>grind
 |some i=>
  simp only[b]at h
  cases a:i.zero with
  |none=>grind
  |some x=>
   simp only[a,Option.bind_some]at h;exact⟨x,by simp[zeroValue,typeInfo,b,a],Hl X h⟩
def Vk(place:Nat->Option (Nat×Nat))(cells:List V):List (Nat×V)->Option (List V)
 |[]=>some cells
 |(i,v)::rest=>
  match place i with
  |none=>none
  |some (off,size)=>
   if v.solid=true/\v.cells.length=size/\off+size<=cells.length then Vk place (setAt cells off v.cells) rest else none
theorem Qm:∀ (vs:List V) (cells:List V) (off:Nat),(setAt cells off vs).length=cells.length
 |[],_,_=>rfl
 |v::r,cells,off=>by simp[setAt,Qm r]
theorem Lz(c:Nat->Option (Nat×Nat)):∀ (parts:List (Nat×V)) (ps:List (Nat×Value)) (cells:List V) (xs:Array Value) (l:List V),
  ps.length=parts.length->(∀ i (h1:i<ps.length) (h2:i<parts.length),ps[i].1=parts[i].1/\Rel X ps[i].2 parts[i].2)->RelC X xs.toList cells->Vk c cells parts=some l ->
  ∃ ys,Instr.fill c xs ps=some ys/\RelC X ys.toList l
 |[],ps,cells,xs,l,hl,_,hC,h=>by
  simp at hl;subst hl;simp[Vk]at h;subst h;exact⟨xs,rfl,hC⟩
 |(i,v)::rest,[],_,_,_,hl,_,_,_=>by grind
 |(i,v)::rest,(j,x)::ps,cells,xs,l,hl,hr,hC,h=>by
  obtain⟨m,f⟩:=hr 0 zS zS;simp only[List.getElem_cons_zero]at m f;subst m;simp only[Vk]at h
  cases s:c j with
  |none=>grind
  |some p=>
   obtain⟨d,size⟩:=p;simp only[s]at h
   split at h
   rename_i t;obtain⟨h1,h2,u⟩:=t;have g:=f.toC h1;have k:=hC.len;have o:=g.len
   obtain⟨ys,n,hrel⟩:=Lz c rest ps (setAt cells d v.cells) (x.cells.zipIdx.foldl (λr (p:Value×Nat)=>r.setIfInBounds (d+p.2) p.1) xs) l (zu hl)
    (λi a b=>by have:=hr (i+1) (zu a) (zu b);simpa using this)
    (by
     have e:(x.cells.zipIdx.foldl (λr (p:Value×Nat)=>r.setIfInBounds (d+p.2) p.1) xs).toList=Nj xs.toList d x.cells.toList:=by
      have:=Js x.cells.toList 0 xs d;rw[<- Array.foldl_toList];simpa using this
     rw[e]
     exact Ja d hC g) h
   refine⟨ys,?_,hrel⟩;simp only[Instr.fill,s]
   have q:x.cells.size=size:=by simp at o;omega
   rw[if_neg (by simp at k;simp[q];omega)];exact n;simp at h
def Ta(P:Program)(t:TypeId)(parts:List (Nat×V)):Option V:=
 match P.underlying t,Uv P t with
 |some (.struct fs),some z=>if(fs.toList.all λf=>(Yw P f.type).isSome)&&z.solid then(Vk (λi=>(fs[i]?).bind λf=>(Yw P f.type).map λn=>(f.offset,n)) z.cells parts).map .agg else none
 |some (.array _ e),some z=>match Yw P e with
  |some n=>if z.solid then(Vk (λi=>some (i*n,n)) z.cells parts).map .agg else none
  |none=>none
 |_,_=>none
theorem Zgs(a:List Field)(h:(a.all λf=>(Yw P f.type).isSome)=true):
  (a.mapM λf=>(do pure (f.offset,<- sizeOf f.type):Sem (Nat×Nat))).run P w=.ok (a.map λf=>(f.offset,(Yw P f.type).getD 0)) w:=by
 induction a with
 |nil=>simp
 |cons f r ih=>
  simp only[List.all_cons,Bool.and_eq_true]at h;obtain⟨n,b⟩:=Option.isSome_iff_exists.1 h.1;simp only[List.mapM_cons,Sem.run_bind,Y0 b,Result.andThen_ok,Sem.run_pure,ih h.2,List.map_cons,b,Option.getD_some]
theorem Z5t{t:TypeId}{a:List (Nat×V)}{ps:Array (Nat×Value)}{v:V}(B:ps.toList.length=a.length)
  (A:∀ i (h1:i<ps.toList.length) (h2:i<a.length),ps.toList[i].1=a[i].1/\Rel X ps.toList[i].2 a[i].2) (h:Ta P t a=some v):
  ∃ c,(Instr.build t ps).run P w=.ok c w/\Rel X c v:=by
 unfold Ta at h
 split at h
 rename_i k z u r
 split at h
 rename_i C;simp only[Bool.and_eq_true]at C;obtain⟨o,b⟩:=C;simp only[Option.map_eq_some_iff]at h;obtain⟨l,h,rfl⟩:=h;obtain⟨x,s,j⟩:=Rc (X:=X) (w:=w) r;obtain⟨q,g,hrel⟩:=Lz _ a ps.toList z.cells x.cells l B A (j.toC b) h;refine⟨.agg q,?_,by have:=hrel.toAgg;simpa using this⟩
 have y:(k.mapM λf=>(do pure (f.offset,<- sizeOf f.type):Sem (Nat×Nat))).run P w=.ok (k.map λf=>(f.offset,(Yw P f.type).getD 0)) w:=by
  rw[Array.mapM_eq_mapM_toList,Sem.run_map,Zgs k.toList o,Result.andThen_ok];rw[<- Array.toList_map]
 have d:(fun(i:Nat)=>(k.map fun(f:Field)=>(f.offset,(Yw P f.type).getD 0))[i]?)=λi=>(k[i]?).bind λf=>(Yw P f.type).map λn=>(f.offset,n):=by
  funext i
  rw[Array.getElem?_map]
  cases E:k[i]? with
  |none=>rfl
  |some f=>
   have p:f∈k.toList:=by
    grind
   have:=List.all_eq_true.1 o f p;obtain⟨n,D⟩:=Option.isSome_iff_exists.1 this;simp[D]
 simp only[Instr.build,Sem.run_bind,s,Result.andThen_ok,Zk u,y,d,g,Sem.run_pure]
 grind
 rename_i n e z u r
 split at h
 rename_i m y
 split at h
 rename_i b;simp only[Option.map_eq_some_iff]at h;obtain⟨l,h,rfl⟩:=h;obtain⟨x,s,j⟩:=Rc (X:=X) (w:=w) r;obtain⟨q,g,hrel⟩:=Lz _ a ps.toList z.cells x.cells l B A (j.toC b) h;refine⟨.agg q,?_,by have:=hrel.toAgg;simpa using this⟩;simp[Instr.build,s,Zk u,Y0 y,g];simp at h;simp at h;simp at h
def Vo(P:Program)(t:TypeId)(a:V):Option V:=
 match a with
 |.view _ (.agg l)=>if S0 P t=some true/\Yw P t=some l.length then some (.agg l)else none
 |.view _ .top=>none
 |.view _ (.tuple _)=>none
 |.view _ v=>if S0 P t=some false then some v else none
 |_=>none
theorem Jj{t:TypeId}{a v:V}{x:Value}(n:Rel X x a)(p:X.w=w)(h:Vo P t a=some v):∃ c,(Instr.loadAt t x).run P w=.ok c w/\Rel X c v:=by
 subst p;unfold Vo at h
 split at h
 rename_i c l
 split at h
 .rename_i hc
  simp at h;subst h
  cases n with
  |view _ _ b off f h1 h2=>
   have s:=run_loadCells (P:=P) X.w ⟨b,off,none⟩ l.length f (λj z=>by
    rw[Addr.add_lit];exact(h1 j z).2.2.1)
   refine⟨.agg ((List.range l.length).map f).toArray,by simp[Instr.loadAt,Instr.sureAddr,loadVar,Qs hc.1,Y0 hc.2,s],?_⟩;refine RelC.toAgg ⟨zS,?_,?_⟩;intro y m;simp only[List.mem_map,List.mem_range]at m;obtain⟨i,B,rfl⟩:=m;exact(h1 i B).2.2.2;intro i A k;simp only[List.getElem_map,List.getElem_range];exact h2 i k
 grind
 iterate 2 grind
 rename_i c u g r q
 split at h
 .rename_i hc
  simp at h;subst h
  cases n with
  |view _ _ b off f h1 h2=>
   have d:u.cells=[u]:=by
    cases u<;>first|rfl|(simp at g)
   have C:=h1 0 (by rw[d];simp);have o:=h2 0 (by rw[d];simp);simp only[d,List.getElem_cons_zero]at o;refine⟨f 0,?_,o⟩;have e:X.w.cell? ⟨b,off,none⟩=some (f 0):=C.2.2.1;simp[Instr.loadAt,Instr.sureAddr,loadVar,Qs hc,e]
 simp at h;simp at h
def Zwc:List V->Option V
 |[.int k x,.int _ y]=>some (.int k (if y>x then y else x))
 |[.int k x,.int _ y,.int _ z]=>some (.int k (if z>(if y>x then y else x)then z else(if y>x then y else x)))
 |_=>none
def Zl0:List V->Option V
 |[.int k x,.int _ y]=>some (.int k (if y<x then y else x))
 |_=>none
def S4:TypeDesc->V->List V->List V->Option (Option V)
 |.int _,.int _ _,[],[]=>some none
 |.string,.str _,[],[]=>some none
 |.int q,.int k a,.int k' b::ks,v::vs=>if k=k' then(if a=b then some (some v)else S4 (.int q) (.int k a) ks vs)else none
 |.string,.str a,.str b::ks,v::vs=>if a=b then some (some v)else S4 .string (.str a) ks vs
 |_,_,_,_=>none
theorem Z8a{X:Cx}{d:TypeDesc}{c:Value}{x:V}(z:Rel X c x):∀ (l:List MapEntry) (ks vs:List V) (i:Nat) (r:Option V),S4 d x ks vs=some r->l.length=ks.length->l.length=vs.length ->
  (∀ i (h1:i<l.length) (h2:i<ks.length),Rel X l[i].key ks[i])->(∀ i (h1:i<l.length) (h2:i<vs.length),Rel X l[i].val vs[i]) ->
  match r with
  |none=>Instr.findNow d c l i=some none
  |some v=>∃ j y,Instr.findNow d c l i=some (some (j,y))/\Rel X y v
 |[],ks,vs,i,r,h,h1,h2,hk,hv=>by
  cases ks with
  |cons=>simp at h1
  |nil=>
   cases vs with
   |cons=>simp at h2
   |nil=>
    cases d<;>cases x<;>simp only[S4,reduceCtorEq,Option.some.injEq]at h<;>subst h<;>rfl
 |e::l,ks,vs,i,r,h,h1,h2,hk,hv=>by
  cases ks with
  |nil=>simp at h1
  |cons k ks=>
   cases vs with
   |nil=>simp at h2
   |cons v vs=>
    have m:Rel X e.key k:=hk 0 zS zS;have n:Rel X e.val v:=hv 0 zS zS;have D:=λr (h:S4 d x ks vs=some r)=>Z8a z l ks vs (i+1) r h (zu h1) (zu h2) (λj w u=>by have:=hk (j+1) (zu w) (zu u);simpa using this) (λj w u=>by have:=hv (j+1) (zu w) (zu u);simpa using this)
    cases d<;>cases x<;>(try simp only[S4,reduceCtorEq]at h)
    rename_i q G a
    cases k<;>simp only[S4,reduceCtorEq]at h
    rename_i k' b;have F:=z.int_inv;have E:=m.int_inv
    split at h
    rename_i B;subst B
    split at h
    rename_i g;subst g;cases h;exact⟨i,e.val,by simp[Instr.findNow,Instr.sameNow,F,E],n⟩;rename_i g
    have f:Instr.findNow (.int q) c (e::l) i=Instr.findNow (.int q) c l (i+1):=by have p:(a==b)=false:=beq_false_of_ne g;simp only[Instr.findNow,Instr.sameNow,F,E,if_true,p]
    rw[f];exact D r h;cases h
    .rename_i a
     cases k<;>simp only[S4,reduceCtorEq]at h
     rename_i b
     obtain⟨s,rfl,t⟩:∃ s,c=.string s/\s.data.toList=a:=by cases z with|str s _ t=>exact⟨s,rfl,t⟩
     generalize o:e.key=H at m
     cases m with
     |str s' _ hs'=>
     split at h
     rename_i g;cases h;have:s=s':=ByteArray.ext (Array.ext' (by rw[t,hs',g]));subst this;have p:(s==s)=true:=(MapKept.bytes_beq _ _).2 rfl;exact⟨i,e.val,by simp only[Instr.findNow,Instr.sameNow,o,p],n⟩;rename_i g;have A:¬ s=s':=λC=>g (by rw[<- t,<- hs',C])
     have p:(s==s')=false:=by rw[Bool.eq_false_iff];exact λC=>A ((MapKept.bytes_beq _ _).1 C)
     have f:Instr.findNow .string (.string s) (e::l) i=Instr.findNow .string (.string s) l (i+1):=by simp only[Instr.findNow,Instr.sameNow,o,p]
     rw[f];exact D r h
def Zpj:V->Option (List V×List V)
 |.mapv ks vs=>some (ks,vs)
 |.nilm=>some ([],[])
 |_=>none
def Q7(P:Program)(t:TypeId)(m x:V)(ok:Bool):Option V:=
 match P.underlying t,Zpj m with
 |some (.map kt et),some (ks,vs)=>match P.underlying kt with
  |some kd=>match S4 kd x ks vs with
   |some (some v)=>some (if ok then .tuple [v,.bool true]else v)
   |some none=>(Uv P et).map λz=>if ok then .tuple [z,.bool false]else z
   |none=>none
  |none=>none
 |_,_=>none
theorem Rel.two{X:Cx}{x:Value}{v:V}(h:Rel X x v)(b:Bool):Rel X (.tuple #[x,.bool b]) (.tuple [v,.bool b]):=
 .tuple _ _ rfl (λi c a=>by
  match i,a with
  |0,_=>exact h
  |1,_=>exact .bool b)
theorem Fj{w:World}{e:Bool}{b:TypeId}{kd:TypeDesc}{c:Value}{x:V}{ks vs:List V}{r:Option V}(d:P.underlying b=some kd)(f:S4 kd x ks vs=some r):(Instr.checkKey e 10000 b c).run P w=.ok () w:=by
 have a:(∃ q,kd=.int q)\/kd=.string:=by
  cases kd<;>cases x<;>simp[S4]at f⊢
 rcases a with ⟨q,rfl⟩|rfl
 unfold Instr.checkKey;simp only[Sem.run_bind,Zk d,Result.andThen_ok];rfl;unfold Instr.checkKey;simp only[Sem.run_bind,Zk d,Result.andThen_ok];rfl
theorem Zsj{X:Cx}{d l:TypeId}{kd:TypeDesc}{x:V}{cx:Value}{ok:Bool}{v:V}{ks vs:List V}(m:Rel X cx x)(b:P.underlying d=some kd)
  (h:(match S4 kd x ks vs with
   |some (some v)=>some (if ok then .tuple [v,.bool true]else v)
   |some none=>(Uv P l).map λz=>if ok then .tuple [z,.bool false]else z
   |none=>none)=some v):∀ (es:Array MapEntry),es.size=ks.length->es.size=vs.length->(∀ i (h1:i<es.size) (h2:i<ks.length),Rel X es[i].key ks[i])->(∀ i (h1:i<es.size) (h2:i<vs.length),Rel X es[i].val vs[i]) ->
   ∃ c,(Instr.checkKey es.isEmpty 10000 d cx).run P X.w=.ok () X.w/\((∃ j y,(Instr.findKey d cx es.toList).run P X.w=.ok (some (j,y)) X.w/\c=if ok then .tuple #[y,.bool true]else y) \/
    ((Instr.findKey d cx es.toList).run P X.w=.ok none X.w/\∃ cz,(zeroValue l).run P X.w=.ok cz X.w/\c=if ok then .tuple #[cz,.bool false]else cz))/\Rel X c v:=by
 intro es s q o n
 have a:∀ r,S4 kd x ks vs=some r->match r with
   |none=>(Instr.findKey d cx es.toList).run P X.w=.ok none X.w
   |some v=>∃ j y,(Instr.findKey d cx es.toList).run P X.w=.ok (some (j,y)) X.w/\Rel X y v:=by
  intro r p;have:=Z8a m es.toList ks vs 0 r p (by grind) (by grind) (λi h1 h2=>by grind) (λi h1 h2=>by grind)
  cases r with
  |none=>
   simp only[Instr.findKey,Sem.run_bind,Zk b,Result.andThen_ok,this,Sem.run_pure]
  |some v=>
   obtain⟨j,y,h1,h2⟩:=this;exact⟨j,y,by simp only[Instr.findKey,Sem.run_bind,Zk b,Result.andThen_ok,h1,Sem.run_pure],h2⟩
 split at h
 rename_i u f;obtain⟨j,y,h1,h2⟩:=a _ f;cases h;refine⟨if ok then .tuple #[y,.bool true]else y,Fj b f,.inl ⟨j,y,h1,rfl⟩,?_⟩;cases ok;exact h2;exact h2.two true
 .rename_i f
  have h1:=a _ f
  cases k:Uv P l with
  |none=>rw[k]at h;cases h
  |some z=>
   rw[k]at h;cases h;obtain⟨cz,g,e⟩:=Rc (X:=X) (w:=X.w) k;refine⟨if ok then .tuple #[cz,.bool false]else cz,Fj b f,.inr ⟨h1,cz,g,rfl⟩,?_⟩;cases ok;exact e;exact e.two false
 cases h
theorem Zva{X:Cx}{t:TypeId}{m x:V}{s cx:Value}{ok:Bool}{v:V}(D:Rel X s m)(A:Rel X cx x)(h:Q7 P t m x ok=some v):∃ c,(Instr.lookup t s cx ok).run P X.w=.ok c X.w/\Rel X c v:=by
 unfold Q7 at h
 split at h
 rotate_left;cases h;rename_i I K J H k d
 split at h
 rotate_left;cases h;rename_i kd p;have e:=Zsj (X:=X) (cx:=cx) A p h
 cases D<;>simp only[Zpj,reduceCtorEq]at d
 obtain⟨rfl,rfl⟩:=d;obtain⟨c,g,a,f⟩:=e #[] rfl rfl (λi a f=>by grind) (λi a f=>by grind);refine⟨c,?_,f⟩
 rcases a with ⟨j,y,a,rfl⟩|⟨a,G,q,rfl⟩
 simp only[Instr.lookup,Sem.run_bind,Zk k,Result.andThen_ok,Sem.run_pure,g,a];simp only[Instr.lookup,Sem.run_bind,Zk k,Result.andThen_ok,Sem.run_pure,g,a,q];rename_i b n es z u C F E B o l;obtain⟨rfl,rfl⟩:=d;obtain⟨c,g,a,f⟩:=e es E B o l;refine⟨c,?_,f⟩
 have r:(getObj b).run P X.w=.ok (.map es n) X.w:=by simp[getObj,Sem.run,F]
 rcases a with ⟨j,y,a,rfl⟩|⟨a,G,q,rfl⟩
 simp only[Instr.lookup,Sem.run_bind,Zk k,Result.andThen_ok,Sem.run_pure,r,g,a];simp only[Instr.lookup,Sem.run_bind,Zk k,Result.andThen_ok,Sem.run_pure,r,g,a,q]
def Zpd(P:Program)(x:V)(T:TypeId)(ok:Bool):Option V:=
 match P.underlying T with
 |some (.interface _)=>none
 |none=>none
 |some _=>match x with
  |.iface t v=>if t=T then some (if ok then .tuple [v,.bool true]else v)else if ok=true then(Uv P T).map λz=>.tuple [z,.bool false]else none
  |.nili=>if ok=true then(Uv P T).map λz=>.tuple [z,.bool false]else none
  |_=>none
theorem Z4k{X:Cx}{x:V}{c:Value}{l T:TypeId}{ok:Bool}{v:V}(i:Rel X c x)(h:Zpd P x T ok=some v):∃ c',(Instr.typeAssert c l T ok).run P X.w=.ok c' X.w/\Rel X c' v:=by
 unfold Zpd at h
 have a:∀ {z},(Uv P T).map (λz=>V.tuple [z,.bool false])=some z->∃ c',(do pure (.tuple #[<- zeroValue T,.bool false]):Sem Value).run P X.w=.ok c' X.w/\Rel X c' z:=by
  intro z g
  cases k:Uv P T with
  |none=>rw[k]at g;cases g
  |some u=>
   rw[k]at g;cases g;obtain⟨m,f,e⟩:=Rc (X:=X) (w:=X.w) k;exact⟨_,by simp only[Sem.run_bind,f,Result.andThen_ok,Sem.run_pure],e.two false⟩
 cases b:P.underlying T with
 |none=>rw[b]at h;cases h
 |some d=>
  rw[b]at h
  cases d<;>simp only[reduceCtorEq]at h
  all_goals
   cases x<;>simp only[reduceCtorEq]at h
   .rename_i t u
    generalize c=c at i
    cases i with
    |iface _ y _ hy=>
     by_cases j:t=T
     rw[if_pos j]at h;cases h;refine⟨if ok then .tuple #[y,.bool true]else y,?_,?_⟩;simp only[Instr.typeAssert,Sem.run_bind,Zk b,Result.andThen_ok,if_pos j,Sem.run_pure];cases ok;exact hy;exact hy.two true
     .rw[if_neg j]at h
      cases ok with
      |false=>simp at h
      |true=>
       simp only[if_true]at h;obtain⟨c',f,e⟩:=a h;refine⟨c',?_,e⟩;simp only[Instr.typeAssert,Sem.run_bind,Zk b,Result.andThen_ok,if_neg j,if_true];simpa only[Sem.run_bind]using f
   .generalize c=c at i
    cases i with
    |nili=>
     cases ok with
     |false=>simp at h
     |true=>
      simp only[if_true]at h;obtain⟨c',f,e⟩:=a h;refine⟨c',?_,e⟩;simp only[Instr.typeAssert,Sem.run_bind,Zk b,Result.andThen_ok,if_true];simpa only[Sem.run_bind]using f
def I6(P:Program)(ρ : Operand->V)(o:Oper):Option V:=
 match o.op with
 |.move x|.assign x=>some (ρ x)
 |.pick c a b=>match ρ c with
  |.bool true=>some (ρ a)
  |.bool false=>some (ρ b)
  |_=>none
 |.binOp op t x y _=>Un P op t (ρ x) (ρ y)
 |.unOp op _ x=>unV op (ρ x)
 |.convert src dst x=>Bk P src dst (ρ x)
 |.extract t i=>match ρ t with
  |.tuple vs=>vs[i]?
  |_=>none
 |.field t x f=>Zft P t (ρ x) f
 |.build t parts=>Ta P t (parts.toList.map λp=>(p.1,ρ p.2))
 |.fieldAddr t x f=>Sd P t (ρ x) f
 |.indexAddr t x i=>Wx P t (ρ x) (ρ i)
 |.index t x i=>Qf P t (ρ x) (ρ i)
 |.slice t x lo hi mx=>Ub P t (ρ x) (lo.map ρ) (hi.map ρ) (mx.map ρ)
 |.makeFunc fn first cap=>some (.func fn (first.toList.map ρ) (cap.toList.map ρ))
 |.makeInterface t x=>match P.underlying t with
  |some (.interface _)=>none
  |some _=>some (.iface t (ρ x))
  |none=>none
 |.nilCheck x=>match ρ x with
  |.view c v=>some (.view c v)
  |.ptr o g off=>some (.ptr o g off)
  |.func (.func f) a b=>some (.func (.func f) a b)
  |_=>none
 |.load t x=>Vo P t (ρ x)
 |.lookup t m x ok=>Q7 P t (ρ m) (ρ x) ok
 |.typeAssert x _ T ok=>Zpd P (ρ x) T ok
 |.call { callee:=.builtin .len,args,argTypes }=>match args.toList,argTypes[0]? with
  |[x],some t=>F5 P t (ρ x)
  |_,_=>none
 |.call { callee:=.builtin .max,args,.. }=>Zwc (args.toList.map ρ)
 |.call { callee:=.builtin .min,args,.. }=>Zl0 (args.toList.map ρ)
 |_=>none
theorem Zyaa{ρ : Operand->V}{u:Operand->Value}{o:Oper}{v:V}(H:X.w=w)(g : ∀ x,Rel X (u x) (ρ x))(h:I6 P ρ o=some v):
  ∃ c,(execOp u o).run P w=.ok (.value c) w/\Rel X c v:=by
 obtain⟨O,G,C,pos,after,L⟩:=o
 have e:∀ (s:Sem Value),(∃ c,s.run P w=.ok c w/\Rel X c v)->∃ c,(do pure (Next.value (<- s)):Sem Next).run P w=.ok (.value c) w/\Rel X c v:=by
  intro s ⟨c,B,A⟩;exact⟨c,by simp[B],A⟩
 cases G<;>simp only[I6,reduceCtorEq]at h<;>simp only[execOp]
 case move x=>simp at h;subst h;exact⟨_,rfl,g _⟩
 case assign x=>simp at h;subst h;exact⟨_,rfl,g _⟩
 case pick c a b=>
  have B:=g c
  split at h<;>simp at h<;>subst h<;>rename_i J<;>rw[J]at B<;>have:=B.bool_inv
  exact⟨u a,by simp[this,asBool],g _⟩;exact⟨u b,by simp[this,asBool],g _⟩
 case binOp G t x y yt=>exact e _ (Zv8 x y (g x) (g y) h)
 case unOp G t x=>exact e _ (Zx9 (g x) h)
 case convert s d x=>exact e _ (Z01 (g x) h)
 case extract t i=>
  have E:=g t
  split at h
  .rename_i vs htv
   rw[htv]at E;generalize u t=q at *
   cases E with
   |tuple xs _ j A=>
    rw[List.getElem?_eq_some_iff]at h;obtain⟨F,rfl⟩:=h
    have:xs[i]?=some (xs[i]'zo):=by simp[j,F]
    exact e _ ⟨xs[i]'zo,by simp[Instr.extract,this],A i zo F⟩
  simp at h
 case field t x f=>exact e _ (Zet (g x) h)
 case build t parts=>
  refine e _ (Z5t zS ?_ h);intro i p n;simp at p n⊢;exact g _
 case fieldAddr t x f=>exact e _ (Ba (g x) h)
 case indexAddr t x i=>exact e _ (C0 (g x) (g i) h)
 case index t x i=>exact e _ (Z7s (g x) (g i) h)
 case slice t x lo F mx=>
  have K:∀ q:Option Operand,K9 X (q.map u) (q.map ρ):=λq=>by cases q<;>simp[K9,g]
  exact e _ (Z4q (g x) (K lo) (K F) (K mx) h)
 case makeFunc fn first cap=>
  simp at h;subst h;refine e _ ⟨_,rfl,.func fn _ _ _ _ zS zS ?_ ?_⟩;intro i p n;simp at p n⊢;exact g _;intro i p n;simp at p n⊢;exact g _
 case makeInterface t x=>
  cases I:P.underlying t with
  |none=>simp[I]at h
  |some d=>
   rw[I]at h;have A:=Zk (w:=w) I
   cases d<;>simp at h<;>subst h<;>exact e _ ⟨.iface t (u x),by simp[Instr.makeInterface,A],.iface _ _ _ (g x)⟩
 case nilCheck x=>
  have j:=g x
  split at h<;>simp at h<;>subst h<;>rename_i N<;>rw[N]at j<;>generalize u x=q at *
  .cases j with
   |view _ _ b off f p n=>exact⟨_,rfl,.view _ _ b off f p n⟩
  .cases j with
   |ptr _ _ _ b bs hβ => exact⟨_,rfl,.ptr _ _ _ b bs hβ⟩
  .cases j with
   |func _ xs ys _ _ p n h3 h4=>exact⟨_,rfl,.func _ xs ys _ _ p n h3 h4⟩
 case load t x=>exact e _ (Jj (g x) H h)
 case lookup t m x ok=>subst H;exact e _ (Zva (g m) (g x) h)
 case typeAssert x xT T ok=>subst H;exact e _ (Z4k (g x) h)
 case call c=>
  obtain⟨r,k,Q⟩:=c
  cases r<;>(try simp only[reduceCtorEq]at h)
  rename_i b
  cases b<;>(try simp only[reduceCtorEq]at h)
  case len=>
   split at h
   rename_i x t j E
   have:k = #[x]:=by cases k;simp at j;rw[j]
   subst this;obtain⟨c,B,A⟩:=Zb7 (w:=w) (ty:=C) E (g x) h;refine⟨c,?_,A⟩;simp[resolve,invoke,builtin,B];simp at h
  case max=>
   obtain⟨l⟩:=k
   match l,h with
   |[x,y],h=>
    have j:=g x;have D:=g y;simp only[List.map_cons,List.map_nil]at h;generalize ρ x=a at *;generalize ρ y=b at *
    cases a<;>cases b<;>simp only[Zwc,reduceCtorEq,Option.some.injEq]at h
    subst h;refine⟨_,?_,.int _ _⟩;simp[resolve,invoke,builtin,j.int_inv,D.int_inv];rfl
   |[x,y,z],h=>
    have j:=g x;have D:=g y;have M:=g z;simp only[List.map_cons,List.map_nil]at h;generalize ρ x=a at *;generalize ρ y=b at *;generalize ρ z=c at *
    cases a<;>cases b<;>cases c<;>simp only[Zwc,reduceCtorEq,Option.some.injEq]at h
    subst h;refine⟨_,?_,.int _ _⟩;simp[resolve,invoke,builtin,j.int_inv,D.int_inv,M.int_inv];rfl
   |[],h=>simp[Zwc]at h
   |[x],h=>simp[Zwc]at h
   |_::_::_::_::_,h=>simp[Zwc]at h
  case min=>
   obtain⟨l⟩:=k
   match l,h with
   |[x,y],h=>
    have j:=g x;have D:=g y;simp only[List.map_cons,List.map_nil]at h;generalize ρ x=a at *;generalize ρ y=b at *
    cases a<;>cases b<;>simp only[Zl0,reduceCtorEq,Option.some.injEq]at h
    subst h;refine⟨_,?_,.int _ _⟩;simp[resolve,invoke,builtin,j.int_inv,D.int_inv];rfl
   |[],h=>simp[Zl0]at h
   |[x],h=>simp[Zl0]at h
   |_::_::_::_,h=>simp[Zl0]at h
end
end Go.Hs
