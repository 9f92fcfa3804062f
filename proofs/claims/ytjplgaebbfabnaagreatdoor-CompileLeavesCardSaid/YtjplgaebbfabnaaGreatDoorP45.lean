/- A part. No condition. -/
import Derived.Test.YtjplgaebbfabnaaGreatDoorP43
import Derived.Test.YtjplgaebbfabnaaGreatDoorP44
set_option linter.all false
section
namespace Go.Hs
section
namespace PM
variable{m:PM}
def wysI(m:PM)(v:Int)(to:Bool)(n:Nat):List Int:=((List.range n).filter fun(i:Nat)=>(to&&(m.wy (i:Int)).target==v)||(!to&&(m.wy (i:Int)).source==v)).map fun(i:Nat)=>(i:Int)
theorem Zca(v:Int)(a:Bool)(n:Nat):m.wysI v a (n+1)=m.wysI v a n++(if((a&&(m.wy (n:Int)).target==v)||(!a&&(m.wy (n:Int)).source==v))=true then[(n:Int)]else[]):=by
 rw[wysI,List.range_succ,List.filter_append,List.map_append]
 split
 rename_i h;rw[List.filter_cons,if_pos h];rfl;rename_i h;rw[List.filter_cons,if_neg h];rfl
theorem wysI_len(v:Int)(a:Bool)(n:Nat):(m.wysI v a n).length<=n:=by
 rw[wysI,List.length_map]
 grind
theorem Jg{v:Int}{a:Bool}{n:Nat}{i:Int}(h:i∈m.wysI v a n):0<=i/\i<n:=by
 obtain⟨k,b,rfl⟩:=List.mem_map.1 h
 grind
theorem Ky{α β : Type}(d : α)(p : α -> Bool)(f : α -> β):∀ l:List α,((List.range l.length).filter λi=>p (l.getD i d)).map (λi=>f (l.getD i d))=(l.filter p).map f
 |[]=>rfl
 |x::t=>by
  rw[List.length_cons,List.range_succ_eq_map,List.filter_cons,List.filter_map];have a:=Ky d p f t
  have e:(λi=>p ((x::t).getD i d))∘Nat.succ=λi=>p (t.getD i d):=by rfl
  by_cases h:p x=true
  rw[if_pos (show p ((x::t).getD 0 d)=true from h),List.filter_cons_of_pos h,List.map_cons,List.map_map]
  congr 1
  rw[if_neg (show ¬ p ((x::t).getD 0 d)=true from h),List.filter_cons_of_neg h,List.map_map];exact a
theorem Zcx(v:Int):(m.wysI v true m.ways.length).map (λi=>(m.wy i).source)=m.inc v:=by
 rw[wysI,List.map_map,inc,<- Ky wy0 (λt=>t.target==v) (·.source) m.ways];simp only[Bool.not_true,Bool.false_and,Bool.or_false];rfl
theorem Zs9(v:Int):(m.wysI v false m.ways.length).map (λi=>(m.wy i).target)=m.out v:=by
 rw[wysI,List.map_map,out,<- Ky wy0 (λt=>t.source==v) (·.target) m.ways];rfl
end PM
end
section
namespace PM
variable{m:PM}{bd:List (List UInt8)->List (List UInt8)->List UInt8->Bool}{gd:List (List UInt8)->List UInt8->Int}
theorem Fm(rule a:Nat):∀ n,a<n->∃ t,m.badAt bd gd rule n=m.badAt bd gd rule a++(if m.keep bd gd rule (a:Int)=true then[]else[(rule,(a:Int))])++t/\∀ x∈t,x.1=rule/\(a:Int)<x.2
 |0,h=>absurd h (Nat.not_lt_zero _)
 |n+1,h=>by
  rcases Nat.lt_or_ge a n with q|q
  obtain⟨t,e,c⟩:=Fm rule a n q;rw[badAt_succ,e]
  grind
  obtain rfl:a=n:=by omega
  exact⟨[],by rw[badAt_succ,List.append_nil],λx b=>by grind⟩
theorem Bs(r:Nat):∀ k,r<=k->∃ t,m.badL bd gd k=m.badL bd gd r++t/\∀ x∈t,r<x.1
 |0,h=>by
  simp_all
 |k+1,h=>by
  rcases Nat.lt_or_ge r (k+1)with q|q
  obtain⟨t,e,b⟩:=Bs r k (by omega);rw[badL_succ,e];refine⟨_,List.append_assoc _ _ _,λx a=>?_⟩
  rcases List.mem_append.1 a with a|a
  grind
  obtain⟨i,_,rfl⟩:=List.mem_map.1 a;exact q
  obtain rfl:r=k+1:=by omega
  simp_all
def ahead(m:PM)(bd:List (List UInt8)->List (List UInt8)->List UInt8->Bool)(gd:List (List UInt8)->List UInt8->Int)(rule a:Nat):Nat:=(m.badL bd gd (rule-1)).length+(m.badAt bd gd rule a).length
theorem Z19{rule a:Nat}(i:1<=rule)(b:rule<=15)(ha:a<m.places rule):
  (m.keep bd gd rule (a:Int)=false/\(m.badL bd gd 15)[m.ahead bd gd rule a]?=some (rule,(a:Int)))\/(m.keep bd gd rule (a:Int)=true/\(m.badL bd gd 15)[m.ahead bd gd rule a]?≠some (rule,(a:Int))):=by
 obtain⟨r,rfl⟩:∃ r,rule=r+1:=⟨rule-1,by omega⟩;obtain⟨t,e,d⟩:=Bs (m:=m) (bd:=bd) (gd:=gd) (r+1) 15 b;obtain⟨u,f,c⟩:=Fm (m:=m) (bd:=bd) (gd:=gd) (r+1) a _ ha;rw[badL_succ r,f]at e;rw[e,ahead,Nat.add_sub_cancel]
 cases g:m.keep bd gd (r+1) (a:Int)with
 |false=>
  grind
 |true=>
  refine .inr ⟨rfl,λh=>?_⟩;rw[if_pos rfl,List.append_nil,List.append_assoc,List.append_assoc,List.getElem?_append_right (Nat.le_add_right _ _),List.getElem?_append_right (by omega)]at h;have:=List.mem_of_getElem? h
  grind
end PM
end
section
structure StP where
 sources:List Int
 first:Int
 guards:List Int
 effects:List Int
 ends:List (Int×List Int)
namespace PM
variable(m:PM)
def outI(v:Int):List Int:=m.wysI v false m.ways.length
def intoI(v:Int):List Int:=m.wysI v true m.ways.length
def tg(t:Int):Int:=(m.wy t).target
def sc(t:Int):Int:=(m.wy t).source
def oneP(v:Int):Bool:=(m.kd v==5||m.kd v==11)||(m.kd v==10&&(m.outI v).length==1)
def allP(v:Int):Bool:=m.kd v==6||(m.kd v==10&&decide (1<(m.outI v).length))
def walkF:Nat->Int->List Int->List (List Int×Int)
 |0,v,path=>[(path,v)]
 |f+1,v,path=>if m.oneP v=true then(m.outI v).flatMap λt=>if path.contains t=true then[(path++[t],-1)]else walkF f (m.tg t) (path++[t])else[(path,v)]
def walkL(v:Int)(path:List Int):List (List Int×Int):=m.walkF (m.ways.length+1-path.length) v path
def waysL(t:Int):List (List Int×Int):=m.walkL (m.tg t) [t]
def forkF:List Int->List (Int×List Int)->List (List (Int×List Int))
 |[],ends=>[ends]
 |o::r,ends=>(m.waysL o).flatMap λw=>forkF r (ends++[(w.2,w.1)])
def strW(sources:List Int)(first:Int)(into:List Int)(w:List Int×Int):List StP:=
 if w.2 ≠ -1/\m.allP w.2=true then(m.forkF (m.outI w.2) []).map λa=>⟨sources,first,w.1++a.flatMap (·.2),into++w.1,a⟩
 else[⟨sources,first,w.1,into++w.1,[(w.2,[])]⟩]
def strL(sources into:List Int)(by_:Int):List StP:=(m.waysL by_).flatMap (m.strW sources (into.headD by_) into)
def beginL(t:Int):List StP:=
 if m.kd (m.tg t)=7 then(if(m.intoI (m.tg t)).headD (-1)=t then m.strL ((m.intoI (m.tg t)).map m.sc) (m.intoI (m.tg t)) ((m.outI (m.tg t)).headD 0)else[])
 else if m.kd (m.sc t)=1\/m.kd (m.sc t)=3\/m.kd (m.sc t)=4\/m.kd (m.sc t)=8\/m.kd (m.sc t)=9 then m.strL [m.sc t] [] t else[]
def allL:List StP:=(List.range m.ways.length).flatMap fun(t:Nat)=>m.beginL t
end PM
end
section
structure WayP where
 path:List Int
 at_:Int
 twice:Bool
namespace PM
variable(m:PM)
def exF:Nat->Int->List Int->List WayP
 |0,v,path=>[⟨path,v,false⟩]
 |f+1,v,path=>if m.oneP v=true then(m.outI v).flatMap λt=>if path.contains t=true then[⟨path++[t],m.tg t,true⟩]else exF f (m.tg t) (path++[t])else[⟨path,v,false⟩]
variable{m}
theorem Zfy{n:Nat}:∀ {l:List Nat},l.Nodup->l.length<=(l.filter (· != n)).length+1
 |[],_=>Nat.zero_le _
 |a::t,h=>by
  rw[List.nodup_cons]at h
  by_cases e:a=n
  subst e
  have:t.filter (· != a)=t:=List.filter_eq_self.2 λx b=>by
   grind
  grind
  have:=Zfy (n:=n) h.2
  grind
theorem Zhj:∀ (n:Nat) (l:List Nat),l.Nodup->(∀ x∈l,x<n)->l.length<=n
 |0,l,_,h=>by
  cases l with
  |nil=>grind
  |cons a t=>exact absurd (h a (by simp)) (Nat.not_lt_zero _)
 |n+1,l,hd,h=>by
  have c:=Zhj n (l.filter (· != n)) (hd.filter _) λx b=>by
   grind
  have:=Zfy (n:=n) hd;omega
theorem nodup_len{n:Nat}{l:List Int}(h:l.Nodup)(g:∀ t∈l,0<=t/\t<n):l.length<=n:=by
 have d:(l.map Int.toNat).Nodup:=by
  rw[List.nodup_iff_pairwise_ne]at h⊢;rw[List.pairwise_map];refine h.imp_of_mem fun{a b} j i c e=>c ?_
  grind
 have:=Zhj n _ d λx f=>by
  grind
 grind
theorem Z39{α : Type}{l:List α}{i:Nat}{w : α}(h:l[i]?=some w):l.take (i+1)=l.take i++[w]:=by
 obtain⟨a,rfl⟩:=List.getElem?_eq_some_iff.1 h;simp_all
def OutsOk(m:PM):Prop:=∀ v:Int,0<=v->v<m.vertices.length->m.oneP v=true->m.outI v≠[]
end PM
end
section
namespace PM
variable{m:PM}
theorem Acy.ups_tr(a:m.Acy){u s w:Int}(h:m.around u=s)(j:0<=s)(c:0<=w)(b:w<m.vertices.length)(f:u∈w::m.ups w):s∈m.ups w:=by
 refine a.ind (P:=λw=>u∈w::m.ups w->s∈m.ups w) ?_ ?_ c b f;intro w _ _ q d;rw[Acy.ups_nil q]at d
 grind
 intro w c b e g i d;rw[a.ups_cons c b e]at d⊢
 grind
theorem Acy.chain(a:m.Acy){v:Int}(d:0<=v)(c:v<m.vertices.length){u:Int}(b:u∈v::m.ups v):0<=u/\u<m.vertices.length:=by
 rcases List.mem_cons.1 b with rfl|b
 grind
 have:=a.ups_rng d c u b;grind
theorem Acy.ups_sub(a:m.Acy){v s u:Int}(h:0<=v)(g:v<m.vertices.length)(b:s∈v::m.ups v)(c:u∈s::m.ups s):u∈v::m.ups v:=by
 rcases List.mem_cons.1 c with rfl|c
 grind
 refine a.ind (P:=λv=>s∈v::m.ups v->u∈v::m.ups v) ?_ ?_ h g b;intro v _ _ q b;rw[Acy.ups_nil q]at b
 grind
 intro v e d f i j b
 rcases List.mem_cons.1 b with rfl|b
 grind
 rw[a.ups_cons e d f]at b⊢
 grind
theorem Acy.regU_in(a:m.Acy){v s:Int}(h:0<=m.regU v s):∃ u∈v::m.ups v,m.around u=s/\m.regU v s=(m.vx u).region:=by
 unfold regU at h⊢
 grind
theorem Acy.regU_mem(a:m.Acy){v s:Int}(f:0<=v)(e:v<m.vertices.length)(c:0<=s)(h:0<=m.regU v s):s∈m.ups v:=by
 obtain⟨u,b,d,_⟩:=a.regU_in h;exact a.ups_tr d c f e b
theorem Acy.mem_around(a:m.Acy){v s:Int}(f:0<=v)(e:v<m.vertices.length)(h:s∈m.ups v):∃ u∈v::m.ups v,m.around u=s:=by
 refine a.ind (P:=λv=>s∈m.ups v->∃ u∈v::m.ups v,m.around u=s) ?_ ?_ f e h;intro v _ _ q h;rw[Acy.ups_nil q]at h;cases h;intro v c b d g i h;rw[a.ups_cons c b d]at h⊢
 grind
theorem Acy.regU_far(a:m.Acy){v s t:Int}(f:0<=v)(d:v<m.vertices.length)(i:s∈v::m.ups v)(h:t∈m.ups s):m.regU v t=m.regU s t:=by
 have b:=a.chain f d i;obtain⟨u,g,e⟩:=a.mem_around b.1 b.2 h;have c:=(a.ups_rng b.1 b.2 t h).1;rw[a.regU_of b.1 b.2 c g e,a.regU_of f d c (a.ups_sub f d i g) e]
def bothB(m:PM)(a b s:Int):Bool:=decide (0<=m.regU a s)&&decide (0<=m.regU b s)
def orthoB(m:PM)(a b:Int):Bool:=(m.ups a).any λs=>m.bothB a b s&&(m.regU a s != m.regU b s)
def orthoF(m:PM)(a b:Int):List Int->Bool
 |[]=>false
 |s::r=>if m.bothB a b s=true then m.regU a s != m.regU b s else orthoF m a b r
theorem Acy.ortho_first(k:m.Acy){a b:Int}(j:0<=a)(i:a<m.vertices.length)(b0:0<=b)(n:b<m.vertices.length):m.orthoF a b (m.ups a)=m.orthoB a b:=by
 have h:∀ s,s∈a::m.ups a->s∈b::m.ups b->(m.ups s).any (λs=>m.bothB a b s&&(m.regU a s != m.regU b s))=false:=by
  intro s u r;rw[List.any_eq_false];intro t l;rw[k.regU_far j i u l,k.regU_far b0 n r l];simp
 have g:∀ v:Int,0<=v->v<m.vertices.length->v∈a::m.ups a->m.orthoF a b (m.ups v)=(m.ups v).any λs=>m.bothB a b s&&(m.regU a s != m.regU b s):=by
  intro v e d;refine k.ind (P:=λv=>v∈a::m.ups a->m.orthoF a b (m.ups v)=(m.ups v).any λs=>m.bothB a b s&&(m.regU a s != m.regU b s)) ?_ ?_ e d;intro v _ _ q _;rw[Acy.ups_nil q];rfl;intro v e d f x y o;have p:m.around v∈a::m.ups a:=List.mem_cons_of_mem _ (k.ups_tr rfl f j i o);rw[k.ups_cons e d f,orthoF,List.any_cons]
  by_cases c:m.bothB a b (m.around v)=true
  rw[if_pos c,c,Bool.true_and]
  have w:0<=m.regU b (m.around v):=by
   unfold bothB at c;grind
  rw[h _ p (List.mem_cons_of_mem _ (k.regU_mem b0 n f w)),Bool.or_false]
  grind
 exact g a j i (List.mem_cons_self ..)
end PM
end
section
def StP.lost(s:StP):Bool:=s.ends.any λe=>e.1 == -1
namespace PM
variable(m:PM)
def exL(t:Int):List WayP:=m.exF m.ways.length (m.tg t) [t]
variable{m}
end PM
end
section
def StP.at_(s:StP):List Int:=if s.lost=true then[]else s.ends.map (·.1)
def Ro(q es:List Int):List Int:=es.foldl (λq e=>if q.contains e=true then q else q++[e]) q
namespace PM
variable(m:PM)
def nextQ(L:List StP)(q:List Int)(v:Int):List Int:=if m.kd v=4 then(L.filter λs=>s.sources.contains v).foldl (λq s=>Ro q s.at_) q else q
def bfsF(L:List StP):Nat->List Int->Nat->List Int
 |0,q,_=>q
 |f+1,q,i=>match q[i]? with
  |none=>q
  |some v=>bfsF L f (m.nextQ L q v) (i+1)
def reachQ(L:List StP)(s:StP):List Int:=m.bfsF L (m.vertices.length+1) (Ro [] s.at_) 0
def reachL(L:List StP)(s:StP):List Int:=((List.range m.vertices.length).filter fun(v:Nat)=>(m.reachQ L s).contains (v:Int)).map fun(v:Nat)=>(v:Int)
end PM
theorem Zbl(q:List Int):Ro q []=q:=rfl
theorem O5(q:List Int)(e:Int)(es:List Int):Ro q (e::es)=Ro (if q.contains e=true then q else q++[e]) es:=rfl
theorem Z98(q a b:List Int):Ro q (a++b)=Ro (Ro q a) b:=List.foldl_append
theorem Bx:∀ (es q:List Int),∃ t,Ro q es=q++t
 |[],q=>⟨[],(List.append_nil q).symm⟩
 |e::es,q=>by
  obtain⟨t,a⟩:=Bx es (if q.contains e=true then q else q++[e]);rw[O5,a]
  grind
theorem By:∀ (es q:List Int) (v:Int),v∈Ro q es↔v∈q\/v∈es
 |[],q,v=>by simp[Zbl]
 |e::es,q,v=>by
  rw[O5,By es,List.mem_cons]
  grind
theorem Zrd:∀ (es q:List Int),q.Nodup->(Ro q es).Nodup
 |[],q,h=>h
 |e::es,q,h=>by
  rw[O5];refine Zrd es _ ?_
  grind
namespace PM
variable{m:PM}
theorem Z6j:∀ (L:List StP) (q:List Int),∃ t,L.foldl (λq s=>Ro q s.at_) q=q++t
 |[],q=>⟨[],(List.append_nil q).symm⟩
 |s::L,q=>by
  obtain⟨t,b⟩:=Bx s.at_ q;obtain⟨u,a⟩:=Z6j L (Ro q s.at_)
  grind
theorem Z7j:∀ (L:List StP) (q:List Int) (v:Int),v∈L.foldl (λq s=>Ro q s.at_) q↔v∈q\/∃ s∈L,v∈s.at_
 |[],q,v=>by simp
 |s::L,q,v=>by
  rw[List.foldl_cons,Z7j L,By]
  grind
theorem Zdy:∀ (L:List StP) (q:List Int),q.Nodup->(L.foldl (λq s=>Ro q s.at_) q).Nodup
 |[],q,h=>h
 |s::L,q,h=>Zdy L _ (Zrd _ _ h)
theorem Zj0(L:List StP)(q:List Int)(v:Int):∃ t,m.nextQ L q v=q++t:=by
 rw[nextQ]
 split
 exact Z6j _ _;simp_all
theorem Om{L:List StP}{q:List Int}{v u:Int}:u∈m.nextQ L q v↔u∈q\/(m.kd v=4/\∃ s∈L,v∈s.sources/\u∈s.at_):=by
 rw[nextQ]
 split
 rename_i h;rw[Z7j]
 grind
 grind
theorem Z16{L:List StP}{q:List Int}(v:Int)(h:q.Nodup):(m.nextQ L q v).Nodup:=by
 rw[nextQ]
 split
 exact Zdy _ _ h;exact h
def Closed(m:PM)(L:List StP)(S:Int->Prop):Prop:=∀ s∈L,∀ v∈s.sources,S v->m.kd v=4->∀ u∈s.at_,S u
def AtOk(m:PM)(s:StP):Prop:=∀ v∈s.at_,0<=v/\v<m.vertices.length
structure QInv(m:PM)(L:List StP)(s:StP)(q:List Int)(i:Nat):Prop where
 nd:q.Nodup
 rng:∀ v∈q,0<=v/\v<m.vertices.length
 st:∀ v∈s.at_,v∈q
 cl:∀ x∈L,∀ v∈x.sources,v∈q.take i->m.kd v=4->∀ u∈x.at_,u∈q
 low:∀ S:Int->Prop,(∀ v∈s.at_,S v)->m.Closed L S->∀ v∈q,S v
 le:i<=q.length
theorem QInv.zero{L:List StP}{s:StP}(b:m.AtOk s):QInv m L s (Ro [] s.at_) 0:=by
 have e:∀ v,v∈Ro [] s.at_↔v∈s.at_:=λv=>by rw[By];simp
 refine⟨Zrd _ _ (List.nodup_nil),λv a=>b v ((e v).1 a),λv a=>(e v).2 a,λx _ v _ a=>?_,λS c _ v a=>c v ((e v).1 a),Nat.zero_le _⟩;cases a
theorem QInv.next{L:List StP}{s:StP}{q:List Int}{i:Nat}{v:Int}(o:∀ x∈L,m.AtOk x)(h:QInv m L s q i)(f:q[i]?=some v):QInv m L s (m.nextQ L q v) (i+1):=by
 obtain⟨t,l⟩:=Zj0 (m:=m) L q v;have n:=(List.getElem?_eq_some_iff.1 f).1;refine⟨Z16 v h.nd,λu a=>?_,λu a=>Om.2 (.inl (h.st u a)),λx b u a c d w j=>?_,λS k g u a=>?_,by grind⟩
 rcases Om.1 a with q|⟨_,x,b,_,q⟩
 exact h.rng u q;exact o x b u q;rw[l,List.take_append_of_le_length (by omega),Z39 f,List.mem_append,List.mem_singleton]at c
 rcases c with c|rfl
 exact Om.2 (.inl (h.cl x b u a c d w j));exact Om.2 (.inr ⟨d,x,b,a,j⟩)
 rcases Om.1 a with q|⟨d,x,b,e,q⟩
 exact h.low S k g u q;exact g x b v e (h.low S k g v (List.mem_of_getElem? f)) d u q
theorem QInv.len{L:List StP}{s:StP}{q:List Int}{i:Nat}(h:QInv m L s q i):q.length<=m.vertices.length:=nodup_len h.nd h.rng
structure QEnd(m:PM)(L:List StP)(s:StP)(q:List Int):Prop where
 nd:q.Nodup
 rng:∀ v∈q,0<=v/\v<m.vertices.length
 st:∀ v∈s.at_,v∈q
 cl:m.Closed L (· ∈ q)
 low:∀ S:Int->Prop,(∀ v∈s.at_,S v)->m.Closed L S->∀ v∈q,S v
theorem QInv.fin{L:List StP}{s:StP}{q:List Int}(h:QInv m L s q q.length):QEnd m L s q:=
 ⟨h.nd,h.rng,h.st,λx a v b e d u c=>h.cl x a v b (by grind) d u c,h.low⟩
theorem Z0k{L:List StP}{s:StP}(a:∀ x∈L,m.AtOk x):∀ (f:Nat) (q:List Int) (i:Nat),QInv m L s q i->m.vertices.length<f+i->QEnd m L s (m.bfsF L f q i)
 |0,q,i,h,hf=>by
  have:=h.len;have:=h.le;omega
 |f+1,q,i,h,hf=>by
  rw[bfsF]
  cases b:q[i]? with
  |none=>
   have:=h.le
   have c:i=q.length:=by
    grind
   subst c;exact h.fin
  |some v=>exact Z0k a f _ _ (h.next a b) (by omega)
theorem Znr{L:List StP}{s:StP}(b:∀ x∈L,m.AtOk x)(a:m.AtOk s):QEnd m L s (m.reachQ L s):=Z0k b _ _ _ (.zero a) (by omega)
theorem QEnd.same{L:List StP}{s:StP}{q p:List Int}(h:QEnd m L s q)(k:QEnd m L s p)(v:Int):v∈q↔v∈p:=
 ⟨h.low _ k.st k.cl v,k.low _ h.st h.cl v⟩
theorem Zpz{L:List StP}{s:StP}{q:List Int}(b:∀ x∈L,m.AtOk x)(a:m.AtOk s)(h:QEnd m L s q):m.reachL L s=((List.range m.vertices.length).filter fun(v:Nat)=>q.contains (v:Int)).map fun(v:Nat)=>(v:Int):=by
 rw[reachL]
 congr 1
 refine List.filter_congr λv _=>?_;rw[List.contains_eq_mem,List.contains_eq_mem];exact decide_eq_decide.2 ((Znr b a).same h v)
end PM
end
section
namespace PM
variable{m:PM}{bd:List (List UInt8)->List (List UInt8)->List UInt8->Bool}{gd:List (List UInt8)->List UInt8->Int}
theorem Z6aa(h:m.badL bd gd 15=[]){rule:Nat}(c:1<=rule)(b:rule<=15){a:Nat}(ha:a<m.places rule):m.keep bd gd rule (a:Int)=true:=by
 rcases Z19 (m:=m) (bd:=bd) (gd:=gd) c b ha with ⟨_,q⟩|⟨q,_⟩
 grind
 exact q
theorem Ic(h:m.badL bd gd 15=[]){rule:Nat}(c:1<=rule)(b:rule<=15){a:Int}(d:0<=a)(ha:a<m.places rule):m.keep bd gd rule a=true:=by
 obtain⟨n,rfl⟩:∃ n:Nat,a=(n:Int):=⟨a.toNat,by omega⟩;exact Z6aa h c b (by omega)
structure Wfd(m:PM):Prop where
 acy:m.Acy
 tg:∀ t:Int,0<=t->t<m.ways.length->0<=m.tg t/\m.tg t<m.vertices.length
 sc:∀ t:Int,0<=t->t<m.ways.length->0<=m.sc t/\m.sc t<m.vertices.length
 kind:∀ v:Int,0<=v->v<m.vertices.length->1<=m.kd v/\m.kd v<=12
 outs:m.OutsOk
 entry:∀ v:Int,0<=v->v<m.vertices.length->m.kd v=10->m.outI v≠[]
 fork:∀ v:Int,0<=v->v<m.vertices.length->m.kd v=6->1<(m.outI v).length
 join:∀ v:Int,0<=v->v<m.vertices.length->m.kd v=7->(m.outI v).length=1/\1<(m.intoI v).length/\∀ t∈m.intoI v,m.kd (m.sc t)=1
 init:∀ v:Int,0<=v->v<m.vertices.length->m.kd v=3->m.intoI v=[]
 lx:m.vertices.length<=512
 lw:m.ways.length<=512
 fix:∀ v:Int,0<=v->v<m.vertices.length->m.kd v≠10->m.kd v≠11->(m.vx v).of = -1/\0<=(m.vx v).region/\(m.vx v).region<m.regions.length
theorem Mt(v:Int):(m.outI v).length=(m.out v).length:=by rw[<- Zs9 v,List.length_map];rfl
theorem Zxa(v:Int):(m.intoI v).length=(m.inc v).length:=by rw[<- Zcx v,List.length_map];rfl
theorem mem_out{v t:Int}:t∈m.outI v↔(0<=t/\t<m.ways.length)/\m.sc t=v:=by
 rw[outI,wysI,List.mem_map]
 constructor
 rintro⟨k,b,rfl⟩;have:=List.mem_filter.1 b;have c:=List.mem_range.1 this.1;refine⟨by omega,?_⟩;have a:=this.2;simp at a;exact a;rintro⟨⟨d,c⟩,a⟩;refine⟨t.toNat,List.mem_filter.2 ⟨List.mem_range.2 (by omega),?_⟩,by omega⟩;rw[show((t.toNat:Nat):Int)=t by omega];simp[show(m.wy t).source=v from a]
theorem mem_into{v t:Int}:t∈m.intoI v↔(0<=t/\t<m.ways.length)/\m.tg t=v:=by
 rw[intoI,wysI,List.mem_map]
 constructor
 rintro⟨k,b,rfl⟩;have:=List.mem_filter.1 b;have c:=List.mem_range.1 this.1;refine⟨by omega,?_⟩;have a:=this.2;simp at a;exact a;rintro⟨⟨d,c⟩,a⟩;refine⟨t.toNat,List.mem_filter.2 ⟨List.mem_range.2 (by omega),?_⟩,by omega⟩;rw[show((t.toNat:Nat):Int)=t by omega];simp[show(m.wy t).target=v from a]
theorem Rt.wfd(r:m.Rt)(h:m.badL bd gd 15=[]):m.Wfd:=by
 have f:∀ t:Int,0<=t->t<m.ways.length->(0<=m.sc t/\m.sc t<m.vertices.length)/\(0<=m.tg t/\m.tg t<m.vertices.length):=by
  intro t b a;have:=r.way t.toNat (by omega);simp only[wayB,inV,Bool.and_eq_true,decide_eq_true_eq]at this;exact⟨this.1.1.1.1.1.1.1.1.1.2,this.1.1.1.1.1.1.1.1.2⟩
 have l:∀ rule:Nat,rule=2\/rule=4\/rule=5\/rule=6\/rule=8->m.places rule=m.vertices.length:=by
  rintro _ (rfl|rfl|rfl|rfl|rfl)<;>rfl
 have k4:∀ v:Int,0<=v->v<m.vertices.length->m.k4 v=true:=λv b a=>Ic (rule:=4) h (by decide) (by decide) b (by exact a);have k5:∀ v:Int,0<=v->v<m.vertices.length->m.k5 v=true:=λv b a=>Ic (rule:=5) h (by decide) (by decide) b (by exact a);have k6:∀ v:Int,0<=v->v<m.vertices.length->m.k6 v=true:=λv b a=>Ic (rule:=6) h (by decide) (by decide) b (by exact a);have k8:∀ v:Int,0<=v->v<m.vertices.length->m.k8 v=true:=λv b a=>Ic (rule:=8) h (by decide) (by decide) b (by exact a);have k2:∀ v:Int,0<=v->v<m.vertices.length->m.k2 v=true:=λv b a=>Ic (rule:=2) h (by decide) (by decide) b (by exact a)
 have d:∀ v:Int,0<=v->v<m.vertices.length->m.kd v=10->m.outI v≠[]:=by
  intro v b a c e;have:=k8 v b a;rw[PM.k8,if_neg (by rw[show m.kd v=10 from c];decide),if_pos c]at this;have g:=Mt (m:=m) v;rw[e]at g;simp only[Bool.and_eq_true,decide_eq_true_eq]at this;rw[<- g]at this;simp at this
 refine⟨r.acy,λt b a=>(f t b a).2,λt b a=>(f t b a).1,λv b a=>?_,?_,d,?_,?_,?_,r.lx,r.lw,?_⟩;have:=r.toRt5.vert b a;simp only[vertexB,Bool.and_eq_true,decide_eq_true_eq]at this;exact⟨this.1.1.1.1.1.1.1.2,this.1.1.1.1.1.1.2⟩;intro v b a c e;simp only[oneP,Bool.or_eq_true,beq_iff_eq,Bool.and_eq_true]at c
 rcases c with (c|c)|⟨c,_⟩
 have:=k6 v b a;rw[PM.k6,c]at this;have g:=Mt (m:=m) v;rw[e]at g;simp[<- g]at this;have:=k8 v b a;rw[PM.k8,if_pos c]at this;have g:=Mt (m:=m) v;rw[e]at g;simp[<- g]at this;exact d v b a c e;intro v b a c;have:=k4 v b a;rw[PM.k4,c]at this;rw[Mt];simp only[beq_self_eq_true,Bool.not_true,Bool.false_or,Bool.and_eq_true,decide_eq_true_eq]at this;exact this.1.2;intro v b a c;have:=k5 v b a;rw[PM.k5,c]at this;rw[Mt,Zxa];simp only[beq_self_eq_true,Bool.not_true,Bool.false_or,Bool.and_eq_true,decide_eq_true_eq,beq_iff_eq,List.all_eq_true]at this;refine⟨this.1.1.1,this.1.1.2,λt k=>?_⟩;refine this.1.2 _ ?_;rw[<- Zcx v];exact List.mem_map.2 ⟨t,k,rfl⟩;intro v b a c;have:=k2 v b a;rw[PM.k2,c]at this;simp only[beq_self_eq_true,Bool.not_true,Bool.false_or,Bool.and_eq_true,beq_iff_eq]at this;exact List.length_eq_zero_iff.1 (by rw[Zxa];exact this.2);intro v b a j i;have:=r.toRt5.lies b a;rw[liesB,if_neg (λq=>q.elim j i)]at this;simp only[Bool.and_eq_true,beq_iff_eq,decide_eq_true_eq]at this;exact⟨this.1.1,this.1.2,this.2⟩
end PM
end
section
namespace PM
variable(m:PM)
def folB:List Int->Int->Int->Bool
 |[],f,to=>f==to
 |t::r,f,to=>decide (0<=t)&&decide (t<m.ways.length)&&(m.sc t==f)&&folB r (m.tg t) to
variable{m}
theorem Zrh(h:m.Wfd):∀ (f:Nat) (v:Int) (path:List Int),0<=v->v<m.vertices.length->path.Nodup->(∀ t∈path,0<=t/\t<m.ways.length)->f+path.length=m.ways.length+1 ->
  ∀ w∈m.walkF f v path,(∀ t∈w.1,0<=t/\t<m.ways.length)/\w.1.length<=m.ways.length+1/\∃ r,w.1=path++r/\(∀ t∈r,m.oneP (m.sc t)=true)/\(w.2 = -1\/((0<=w.2/\w.2<m.vertices.length)/\m.oneP w.2=false/\m.folB r v w.2=true))
 |0,v,path,_,_,hn,hr,hf=>by
  have:=nodup_len hn hr;omega
 |f+1,v,path,h0,h1,hn,hr,hf=>by
  intro w e;rw[walkF]at e
  split at e
  rename_i k;obtain⟨t,p,e⟩:=List.mem_flatMap.1 e;obtain⟨d,g⟩:=mem_out.1 p;have i:=h.tg t d.1 d.2
  have j:∀ x∈path++[t],0<=x/\x<m.ways.length:=λx c=>by
   rcases List.mem_append.1 c with c|c
   exact hr x c;rw[List.mem_singleton.1 c];exact d
  split at e
  rw[List.mem_singleton.1 e];exact⟨j,by rw[List.length_append,List.length_singleton];omega,[t],rfl,λx c=>by rw[List.mem_singleton.1 c,g];exact k,.inl rfl⟩;rename_i o;rw[List.contains_eq_mem,decide_eq_true_eq]at o
  have n:(path++[t]).Nodup:=by
   rw[List.nodup_append];refine⟨hn,by simp,λa s b q=>?_⟩;rw[List.mem_singleton.1 q];rintro rfl;exact o s
  obtain⟨C,B,r,A,u,l⟩:=Zrh h f _ _ i.1 i.2 n j (by rw[List.length_append,List.length_singleton];omega) w e;refine⟨C,B,t::r,by rw[A,List.append_assoc];rfl,λx c=>?_,?_⟩
  rcases List.mem_cons.1 c with rfl|c
  rw[g];exact k;exact u x c
  rcases l with l|⟨l,z,y⟩
  exact .inl l;refine .inr ⟨l,z,?_⟩;rw[folB,decide_eq_true d.1,decide_eq_true d.2,g,y];simp;rename_i k;rw[List.mem_singleton.1 e];rw[Bool.not_eq_true]at k;exact⟨hr,by show path.length<=_;omega,[],(List.append_nil _).symm,(λx c=>(by cases c)),.inr ⟨⟨h0,h1⟩,k,by simp[folB]⟩⟩
structure WayF(m:PM)(t:Int)(w:List Int×Int):Prop where
 rng:∀ x∈w.1,0<=x/\x<m.ways.length
 len:w.1.length<=m.ways.length+1
 hd:∃ r,w.1=t::r/\∀ x∈r,m.oneP (m.sc x)=true
 fo:w.2 = -1\/((0<=w.2/\w.2<m.vertices.length)/\m.oneP w.2=false/\m.folB w.1 (m.sc t) w.2=true)
theorem waysL_ok(h:m.Wfd){t:Int}(t0:0<=t)(t1:t<m.ways.length):∀ w∈m.waysL t,m.WayF t w:=by
 intro w f;have d:=h.tg t t0 t1;obtain⟨k,j,r,e,g,i⟩:=Zrh h _ _ _ d.1 d.2 (by simp) (λx l=>by grind) (by grind) w f;refine⟨k,j,⟨r,e,g⟩,i.imp id fun⟨a,b,c⟩=>⟨a,b,?_⟩⟩;rw[e,List.singleton_append,folB,decide_eq_true t0,decide_eq_true t1,c];simp
theorem forkF_ok:∀ (os:List Int) (acc:List (Int×List Int)),∀ es∈m.forkF os acc,es.length=acc.length+os.length/\∀ e∈es,e∈acc\/∃ o∈os,(e.2,e.1)∈m.waysL o
 |[],acc,es,a=>by
  rw[List.mem_singleton.1 a]
  grind
 |o::os,acc,es,a=>by
  obtain⟨w,b,a⟩:=List.mem_flatMap.1 a;obtain⟨d,c⟩:=forkF_ok os _ es a
  grind
structure StF(m:PM)(s:StP):Prop where
 first:0<=s.first/\s.first<m.ways.length
 so:s.sources≠[]
 sn:s.sources.length<=m.ways.length\/s.sources.length=1
 src:∀ v∈s.sources,0<=v/\v<m.vertices.length
 one:∀ v∈s.sources,m.kd v=4->s.sources=[v]
 en:s.ends≠[]
 el:s.ends.length<=m.ways.length+1
 bl:∀ e∈s.ends,e.2.length<=m.ways.length+1
 gl:s.guards.length<=(m.ways.length+1)*(m.ways.length+2)
 fl:s.effects.length<=m.ways.length+(m.ways.length+1)
 er:∀ t∈s.effects,0<=t/\t<m.ways.length
 gr:∀ t∈s.guards,0<=t/\t<m.ways.length
 br:∀ e∈s.ends,∀ t∈e.2,0<=t/\t<m.ways.length
 ar:∀ e∈s.ends,e.1 = -1\/(0<=e.1/\e.1<m.vertices.length)
theorem flat_le{n:Nat}:∀ (l:List (Int×List Int)),(∀ e∈l,e.2.length<=n)->(l.flatMap (·.2)).length<=l.length*n
 |[],_=>by simp
 |e::l,h=>by
  have:=flat_le l λx a=>h x (by grind);have:=h e (by simp);rw[List.flatMap_cons,List.length_append,List.length_cons,Nat.add_mul];omega
structure Beg(m:PM)(sources into:List Int)(by_:Int):Prop where
 byr:0<=by_/\by_<m.ways.length
 first:0<=into.headD by_/\into.headD by_<m.ways.length
 so:sources≠[]
 sn:sources.length<=m.ways.length\/sources.length=1
 src:∀ v∈sources,0<=v/\v<m.vertices.length
 one:∀ v∈sources,m.kd v=4->sources=[v]
 il:into.length<=m.ways.length
 ir:∀ t∈into,0<=t/\t<m.ways.length
theorem Zkx(h:m.Wfd){c d:List Int}{l:Int}(b:m.Beg c d l):∀ s∈m.strL c d l,m.StF s:=by
 intro s i;obtain⟨w,u,i⟩:=List.mem_flatMap.1 i;have j:=waysL_ok h b.byr.1 b.byr.2 w u;have n:=j.len;have x:=b.il
 have r:∀ t∈d++w.1,0<=t/\t<m.ways.length:=λt a=>by
  rcases List.mem_append.1 a with a|a
  exact b.ir t a;exact j.rng t a
 rw[strW]at i
 split at i
 rename_i q;obtain⟨es,f,rfl⟩:=List.mem_map.1 i;obtain⟨k1,k2⟩:=forkF_ok _ _ es f
 have k2:∀ e∈es,∃ o:Int,(0<=o/\o<m.ways.length)/\m.WayF o (e.2,e.1):=λe f=>by
  rcases k2 e f with q|⟨o,v,q⟩
  cases q;have:=Jg v;exact⟨o,this,waysL_ok h this.1 this.2 _ q⟩
 have k3:∀ e∈es,e.2.length<=m.ways.length+1:=λe f=>by obtain⟨o,_,q⟩:=k2 e f;exact q.len
 have k4:=flat_le es k3
 have k5:es.length<=m.ways.length:=by
  rw[k1,List.length_nil,Nat.zero_add];exact wysI_len ..
 have k:m.outI w.2≠[]:=by
  have p:0<=w.2/\w.2<m.vertices.length:=j.fo.resolve_left q.1 |>.1
  have g:=q.2;simp only[allP,Bool.or_eq_true,beq_iff_eq,Bool.and_eq_true,decide_eq_true_eq]at g;intro e
  rcases g with g|⟨_,g⟩
  have:=h.fork _ p.1 p.2 g;rw[e]at this;cases this;rw[e]at g;cases g
 refine⟨b.first,b.so,b.sn,b.src,b.one,?_,by show es.length<=_;omega,k3,?_,?_,r,?_,?_,?_⟩
 show es≠[]
 intro e;rw[e]at k1;exact k (List.length_eq_zero_iff.1 (by simpa using k1.symm))
 show(w.1++es.flatMap (·.2)).length<=_
 rw[List.length_append];have:es.length*(m.ways.length+1)<=m.ways.length*(m.ways.length+1):=Nat.mul_le_mul_right _ k5
 have e:(m.ways.length+1)*(m.ways.length+2)=m.ways.length*(m.ways.length+1)+(m.ways.length+1)+(m.ways.length+1):=by
  rw[Nat.mul_add,Nat.mul_comm (m.ways.length+1) m.ways.length,Nat.add_mul];omega
 omega
 show(d++w.1).length<=_
 rw[List.length_append];omega;intro t a
 rcases List.mem_append.1 a with a|a
 exact j.rng t a;obtain⟨e,f,a⟩:=List.mem_flatMap.1 a;obtain⟨o,_,q⟩:=k2 e f;exact q.rng t a;intro e f t a;obtain⟨o,_,q⟩:=k2 e f;exact q.rng t a;intro e f;obtain⟨o,_,q⟩:=k2 e f;exact q.fo.imp id λq=>q.1;rw[List.mem_singleton.1 i];refine⟨b.first,b.so,b.sn,b.src,b.one,by simp,by simp,?_,?_,?_,r,j.rng,?_,?_⟩;intro e f;rw[List.mem_singleton.1 f];exact Nat.zero_le _
 show w.1.length<=_
 exact Nat.le_trans n (Nat.le_mul_of_pos_right _ (by omega))
 show(d++w.1).length<=_
 rw[List.length_append];omega;intro e f t a;rw[List.mem_singleton.1 f]at a;cases a;intro e f;rw[List.mem_singleton.1 f];exact j.fo.imp id λq=>q.1
theorem headD_mem{l:List Int}{d:Int}(h:l≠[]):l.headD d∈l:=by
 cases l with
 |nil=>grind
 |cons a t=>grind
theorem Zp7(h:m.Wfd){t:Int}(t0:0<=t)(t1:t<m.ways.length)(g:m.kd (m.tg t)=7):m.Beg ((m.intoI (m.tg t)).map m.sc) (m.intoI (m.tg t)) ((m.outI (m.tg t)).headD 0):=by
 have a:=h.tg t t0 t1;obtain⟨k,j,i⟩:=h.join _ a.1 a.2 g;have b:∀ x∈m.intoI (m.tg t),0<=x/\x<m.ways.length:=λx c=>Jg c
 have e:m.intoI (m.tg t)≠[]:=by grind
 have d:m.outI (m.tg t)≠[]:=by grind
 refine⟨Jg (headD_mem d),Jg (headD_mem e),by simp_all,.inl (by rw[List.length_map];exact wysI_len ..),λv f=>?_,λv f q=>?_,wysI_len ..,b⟩;obtain⟨x,c,rfl⟩:=List.mem_map.1 f;have:=b x c;exact h.sc x this.1 this.2
 grind
theorem Zvz(h:m.Wfd){t:Int}(t0:0<=t)(t1:t<m.ways.length):m.Beg [m.sc t] [] t:=
 ⟨⟨t0,t1⟩,⟨t0,t1⟩,by simp,.inr rfl,λv a=>by rw[List.mem_singleton.1 a];exact h.sc t t0 t1,λv a _=>by grind,Nat.zero_le _,λx b=>by grind⟩
theorem Zi2(h:m.Wfd){t:Int}(t0:0<=t)(t1:t<m.ways.length):∀ s∈m.beginL t,m.StF s:=by
 intro s a;rw[beginL]at a
 split at a
 rename_i b
 split at a
 exact Zkx h (Zp7 h t0 t1 b) s a
 grind
 split at a
 exact Zkx h (Zvz h t0 t1) s a
 grind
theorem allL_ok(h:m.Wfd):∀ s∈m.allL,m.StF s:=by
 intro s a;obtain⟨t,b,a⟩:=List.mem_flatMap.1 a;have:=List.mem_range.1 b;exact Zi2 h (by omega) (by omega) s a
end PM
end
section
namespace PM
variable(m:PM)(bd:List (List UInt8)->List (List UInt8)->List UInt8->Bool)(gd:List (List UInt8)->List UInt8->Int)
def forkedB(l:List Int):Bool:=l.any λt=>m.kd (m.sc t)==5
def endAt(s:StP)(i:Nat):Int×List Int:=s.ends.getD i (-1,[])
def endB(s:StP)(i:Nat):Bool:=
 !((endAt s i).1 == -1)&&((endAt s i).2==[]||m.kd (endAt s i).1==1) && !m.forkedB (endAt s i).2&&(List.range i).all λk=>m.orthoB (endAt s k).1 (endAt s i).1
def srcOf(s:StP):Int:=s.sources.headD 0
def fixB(v:Int):Bool:=m.kd v==3||m.kd v==8||m.kd v==9
def inReach(s:StP)(v:Int):Bool:=
 if m.fixB (srcOf s)=true then m.withinB v (m.vx (srcOf s)).region else if m.kd (srcOf s)=1/\(m.wy s.first).kind=2 then m.inB v (srcOf s)else true
def rightS(s:StP)(R:List Int):Bool:=((List.range s.ends.length).all λi=>m.endB s i) && !(m.fixB (srcOf s)&&m.forkedB s.effects)&&R.all λv=>m.inReach s v
def withR:List (StP×List Int):=m.allL.map λs=>(s,m.reachL m.allL s)
def statP:List (StP×List Int)×Int×Int:=
 if(m.checkW bd gd).2≠0 then([],0,(m.checkW bd gd).2)else if(m.checkW bd gd).1≠[]then([],0,170)else if 4096<m.allL.length then([],0,3)else
  match m.withR.find? λp => !m.rightS p.1 p.2 with
  |some p=>([],p.1.first,230)
  |none=>(m.withR,0,0)
variable{m bd gd}
structure StOk(m:PM):Prop where
 rt:m.Rt
 wfd:m.Wfd
 le:m.allL.length<=4096
 right:∀ s∈m.allL,m.rightS s (m.reachL m.allL s)=true
theorem statP_ok(h:(m.statP bd gd).2.2=0):m.StOk/\(m.statP bd gd).1=m.withR:=by
 rw[statP]at h⊢
 by_cases c:(m.checkW bd gd).2≠0
 grind
 rw[if_neg c]at h⊢
 by_cases b:(m.checkW bd gd).1≠[]
 grind
 rw[if_neg b]at h⊢
 by_cases i:4096<m.allL.length
 grind
 rw[if_neg i]at h⊢
 have e:(m.rightP).2.2=0:=by
  by_cases q:(m.rightP).2.2=0
  exact q;exact absurd (by rw[checkW,if_pos q];exact q) c
 have g:m.badL bd gd 15=[]:=by
  rw[checkW,if_neg (by grind)]at b
  grind
 have a:=rt_of (right_er.1 e)
 split at h
 cases h;rename_i f;refine⟨⟨a,a.wfd g,by omega,λs d=>?_⟩,rfl⟩;have:=List.find?_eq_none.1 f (s,m.reachL m.allL s) (List.mem_map.2 ⟨s,d,rfl⟩);simpa using this
theorem Wfd.atok(h:m.Wfd):∀ s∈m.allL,m.AtOk s:=by
 intro s b v a;unfold StP.at_ at a
 split at a
 grind
 rename_i c;rw[Bool.not_eq_true,StP.lost,List.any_eq_false]at c;obtain⟨e,d,rfl⟩:=List.mem_map.1 a;refine((allL_ok h s b).ar e d).resolve_left λq=>?_
 grind
theorem Zwi(L:List StP)(s:StP):List.Pairwise (· < ·) (m.reachL L s):=by
 rw[reachL,List.pairwise_map]
 refine(List.Pairwise.filter _ List.pairwise_lt_range).imp fun{a b} h=>by omega
theorem reachL_rng(L:List StP)(s:StP):∀ v∈m.reachL L s,0<=v/\v<m.vertices.length:=by
 intro v a;rw[reachL,List.mem_map]at a
 grind
end PM
end
end Go.Hs
end

section
namespace Go.Hs
open Go.Proofs
set_option maxHeartbeats 1000000
set_option maxRecDepth 10000
structure PlM where
 parent:Int
 region:Int
 depth:Int
 state:Bool
 point:Bool
 out:Sl Int
 into:Sl Int
structure IxM where
 places:Sl PlM
 kids:V
 owned:V
 points:V
def M5(c:Col)(p:PlM):V:=.agg [.int .i64 p.parent,.int .i64 p.region,.int .i64 p.depth,.bool p.state,.bool p.point,Za c 1 (V.int .i64) p.out,Za c 1 (V.int .i64) p.into]
theorem Vj(c:Col)(p:PlM):M5 c p=.agg [.int .i64 p.parent,.int .i64 p.region,.int .i64 p.depth,.bool p.state,.bool p.point,Za c 1 (V.int .i64) p.out,Za c 1 (V.int .i64) p.into]:=rfl
theorem Zuaa(c:Col)(p:PlM):(M5 c p).cells.length=7:=rfl
def Uj(b c d:Col)(x:IxM):V:=.view b (.agg [Za c 7 (M5 d) x.places,x.kids,x.owned,x.points])
theorem V0(b c d:Col)(x:IxM):Uj b c d x=.view b (.agg [Za c 7 (M5 d) x.places,x.kids,x.owned,x.points]):=rfl
def IxM.rc(g:Col->Col)(x:IxM):IxM:=⟨x.places,x.kids.recol g,x.owned.recol g,x.points.recol g⟩
theorem Zqz(g:Col->Col)(x:IxM):(x.rc g).places=x.places:=rfl
theorem Zpa(g:Col->Col)(c d:Col)(s:Sl PlM):(Za c 7 (M5 d) s).recol g=Za (g c) 7 (M5 (g d)) s:=Y8 g c 7 (λp=>by simp only[Vj,Xl,List.map_cons,List.map_nil,Yj,Dv,Y1]) s
theorem Q2(g:Col->Col)(b c d:Col)(x:IxM):(Uj b c d x).recol g=Uj (g b) (g c) (g d) (x.rc g):=by
 simp only[V0,V.recol,Yv,Zpa,IxM.rc]
theorem Zl8(b c d:Col)(x:IxM):(Uj b c d x).cells=[Uj b c d x]:=rfl
theorem Zm5(b c d:Col)(x:IxM):(Uj b c d x).solid=true:=rfl
attribute[go_sem]Zqz Zpa Q2 Zl8 Zm5
theorem Wm(G:Nat->V)(b c d:Col)(x:IxM)(v:Int):Spec Tryz.prog G 85 [Uj b c d x,.int .i64 v] Zj (λw _=>w=.bool (decide (0<=v)&&decide (v<x.places.l.length))):=by
 refine Zo 0 20 [.tmp 4] Tryz.func85 λX=>?_
 by_cases f:0<=v
 have a:decide (v>=0)=true:=zT;have e:decide (0<=v)=true:=zT;rw[e];exact Zq (zi a V0);have a:decide (v>=0)=false:=zF;have e:decide (0<=v)=false:=zF;rw[e];exact Zq (zi a V0)
theorem Ll(G:Nat->V)(a:V)(v:Int)(c:a.cells=[a]:=by exact rfl)(b:a.solid=true:=by exact rfl):InSp Tryz.prog G 69 [a,.int .i64 v] (Z5 Zj [(52,.dead),(53,.dead)])
  (λw H'=>∃ g2 g3,w=.func (.func 110) [] [.ptr 53 g3 0,.ptr 52 g2 0]/\H' 52=.cells .new g2 0 [a]/\H' 53=.cells .new g3 0 [.int .i64 v]):=by
 refine Yr 50 6 [.tmp 4] Tryz.func69 rfl rfl rfl rfl λX=>?_;simp only[Z5];refine Zf (zi c b) ?_;intro g2 g3;refine Zf (zi c b) ?_;exact⟨g2,g3,rfl,zr,zr⟩
def Ma(m:PM)(v:Int):List Int:=if 0<=v then v::m.ups v else[]
def PM.rgO(m:PM)(v:Int):Int:=if 0<=(m.vx v).of then(m.vx (m.vx v).of).region else(m.vx v).region
structure IxP(m:PM)(x:IxM):Prop where
 len:x.places.l.length=m.vertices.length
 par:∀ (i:Nat) p,x.places.l[i]?=some p->p.parent=m.around i
 reg:∀ (i:Nat) p,x.places.l[i]?=some p->p.region=m.rgO i
 st:∀ (i:Nat) p,x.places.l[i]?=some p->p.state=(m.kd i==1)
 pt:∀ (i:Nat) p,x.places.l[i]?=some p->p.point=decide (0<=(m.vx i).of)
 out:∀ (i:Nat) p,x.places.l[i]?=some p->p.out.l=m.outI i
 into:∀ (i:Nat) p,x.places.l[i]?=some p->p.into.l=m.intoI i
theorem Zjd{m:PM}(a:m.Acy){v:Int}(b:0<=v)(c:v<m.vertices.length):Ma m v=v::Ma m (m.around v):=by
 unfold Ma;rw[if_pos b]
 by_cases h:0<=m.around v
 rw[if_pos h,a.ups_cons b c h];rw[if_neg h,PM.Acy.ups_nil zo]
theorem E5(G:Nat->V)(Y:Y6 G)(b c d:Col)(x:IxM)(m:PM)(a:m.Acy)(J:IxP m x)(v:Int)(Q:v<m.vertices.length)(g2 g3:Nat)(H:Heap)(h2:H 52=.cells .new g2 0 [Uj b c d x])(h3:H 53=.cells .new g3 0 [.int .i64 v]):
  Eh Tryz.prog G 100 110 [.ptr 53 g3 0,.ptr 52 g2 0] H (λk:Int=>[.int .i64 k]) (Ma m v):=by
 refine Wz .plain 0 19 3 [] Tryz.func110 λX t cl σ R F e s0 P T U _=>?_;refine AW.block ?_
 refine Vs (fun(w:Int × σ × Heap)=>⟨Z5 La [(0,.func t [] cl),(1,.ptr 53 g3 0),(2,.ptr 52 g2 0)],Z5 (Z9 100 w.2.2) [(52,.cells .new g2 0 [Uj b c d x]),(53,.cells .new g3 0 [.int .i64 w.1])]⟩)
  (λw=>w.1<m.vertices.length/\R6 F e w.2.1 (Ma m w.1)/\R w.2.1 (Z9 100 w.2.2)/\Yx e s0 (Ma m v)=Yx e w.2.1 (Ma m w.1)) (λw=>(Ma m w.1).length) (v,s0,H) ⟨Q,T,U,rfl⟩ ?_ ?_
 exact Y7 ⟨rfl,rfl,rfl,trivial⟩ ⟨h2,h3,trivial⟩ rfl;rintro⟨w,s,H1⟩ ⟨z,y,C,i⟩ L W;simp only at z y C i⊢
 by_cases A:0<=w
 have D:decide (w>=0)=true:=zT;rw[Zjd a A z]at y i;refine Z6 (Z6 (Wh [5] zk (by rfl) ?_));simp -implicitDefEqProofs only[go_sem,seval,D,Mf];refine⟨_,rfl,T7 P s w zp zm y.1 ?_ (λO h f=>?_) zk (n:=5) rfl zp⟩;refine Zs ?_;exact C;have u:=f 52 zd;have o:=f 53 zd;simp -implicitDefEqProofs only[go_sem,seval]at u o;have j:=y.2
 have g:Yx e s0 (Ma m v)=if(e s w).1=true then Yx e (e s w).2 (Ma m (m.around w))else(false,(e s w).2):=i
 generalize e s w=r at h g j⊢;obtain⟨N,I⟩:=r;refine Zs ?_;refine AW.weak (Y7 (lo:=100) (B:=O) (l:=[(0,.func t [] cl),(1,.ptr 53 g3 0),(2,.ptr 52 g2 0),(10,.bool N)]) (m:=[(52,.cells .new g2 0 [Uj b c d x]),(53,.cells .new g3 0 [.int .i64 w])]) ⟨rfl,rfl,rfl,rfl,trivial⟩ ⟨u,o,trivial⟩ rfl) ?_;cases N;refine Z ?_;rw[g];refine⟨_,rfl,.inr trivial,?_⟩
 show R I _
 refine Zs ?_;exact h;obtain⟨k,rfl⟩:∃ k:Nat,w=(k:Int):=⟨w.toNat,zo⟩
 have M:k<x.places.l.length:=by rw[J.len];omega
 have E:=List.getElem?_eq_getElem M;have K:=J.par k _ E;generalize x.places.l[k]=p at E K;refine I7 (zi E (zi M (zi Vj (zi V0 Yh)))) Y ?_;refine Zs ?_
 have S:m.around k<m.vertices.length:=by rcases a.rng k A z with q|q<;>omega
 refine W _ ⟨(m.around k,I,O),?_,⟨S,j rfl,h,by rw[g]<;>rfl⟩,Y7 ⟨rfl,rfl,rfl,trivial⟩ ⟨zp,?_,trivial⟩ ?_⟩
 show(Ma m (m.around k)).length<(Ma m k).length
 rw[Zjd a A z];exact Nat.lt_succ_self _;exact T9 K;exact zp;have D:decide (w>=0)=false:=zF;have e0:Ma m w=[]:=if_neg A;rw[e0]at i;refine Zf D ?_;refine Zs ?_;rw[i];refine⟨_,rfl,.inr trivial,?_⟩
 show R s _
 refine Zs ?_;exact C
theorem IxP.at{m:PM}{x:IxM}(h:IxP m x){v:Int}(n:0<=v)(b:v<m.vertices.length):∃ (k:Nat) (p:PlM),v=(k:Int)/\k<x.places.l.length/\x.places.l[k]?=some p/\p.parent=m.around v/\p.region=m.rgO v/\p.state=(m.kd v==1)/\p.point=decide (0<=(m.vx v).of)/\p.out.l=m.outI v/\p.into.l=m.intoI v:=by
 have c:v.toNat<x.places.l.length:=by rw[h.len];omega
 have e:v=((v.toNat:Nat):Int):=zo;have a:=List.getElem?_eq_getElem c;refine⟨v.toNat,_,e,c,a,?_⟩;have b:=h.par _ _ a;have j:=h.reg _ _ a;have i:=h.st _ _ a;have g:=h.pt _ _ a;have f:=h.out _ _ a;have d:=h.into _ _ a;rw[<- e]at b j i g f d;exact⟨b,j,i,g,f,d⟩
theorem Ir{m:PM}(a:m.Acy){v:Int}(c:v<m.vertices.length):∀ k∈Ma m v,0<=k/\k<m.vertices.length:=by
 intro k b;unfold Ma at b
 split at b
 rename_i d;exact a.chain d c b;cases b
theorem Zx7{H H':Heap}(h:H=H':=by funext o;simp only[Ya];(repeat' split)<;>first|rfl|omega):H=H':=h
def anJ(b:Bool):Option Code:=if b=true then some .ret else none
theorem Zw7(G:Nat->V)(i:Y6 G)(b c d:Col)(x:IxM)(m:PM)(a:m.Acy)(g:IxP m x)(v r:Int)(K:0<=v)(A:v<m.vertices.length):
  Spec Tryz.prog G 101 [Uj b c d x,.int .i64 v,.int .i64 r] Zj (λw _=>w=.bool ((Ma m v).any λu=>m.rgO u==r)):=by
 refine ZoM 100 26 [.cell 6 4] Tryz.func101 λX=>?_
 have H:(decide (0<=v)&&decide (v<x.places.l.length))=true:=by rw[g.len,Bool.and_eq_true];exact⟨zT,zT⟩
 refine Z ?_;intro t C j;refine Z ?_;refine Zc i ?_ (s:=Wm G _ _ _ _ v);refine Zg H ?_;refine CallA.inl [(52,.dead),(53,.dead)] zk ?_ ((Ll G (Uj b c d x) v).mono ?_);intro p f;simp only[List.mem_cons,List.not_mem_nil,or_false]at f
 rcases f with rfl|rfl<;>rfl
 rintro w M ⟨D,o,rfl,F,E⟩;simp -implicitDefEqProofs only[go_sem,seval,Z5,F,E];refine AW.block ?_
 refine Qy 50 100 190 150 (λs=>Ya (Ya (Ya Zj 103 (.cells .new t 0 [Uj b c d x])) 105 (.cells .new C 0 [.int .i64 r])) 106 (.cells .new j 0 [.bool s])) (λ_ k=>m.rgO k==r) anJ (λ_ k=>0<=k/\k<m.vertices.length) false rfl
  (λl I=>E5 G i b c d x m a g v A D o _ zp zp) ?_ (Pb rfl λk h _=>Ir a A k h) ?_ ?_
 refine Zs ?_;exact Yp _ _ _ rfl
 .rintro l Y s k hr ⟨k0,k1⟩ hj
  cases s;rotate_left;cases hj;refine Zs ?_;refine AW.region zk ?_;refine Zs ?_;intro Z _;obtain⟨n,p,rfl,h,B,_,f,_⟩:=g.at k0 k1;refine I7 (zi B (zi h (zi Vj (zi V0 Yh)))) i ?_;rw[f];cases q:(m.rgO (n:Int)==r);refine Zf q ?_;exact⟨rfl,Yp _ _ _ rfl⟩;refine Zf q ?_;refine AW.ret ?_;refine Xr q ?_;exact⟨rfl,Zx7⟩
 rintro L y e z J
 have e:y=(Ma m v).any λu=>m.rgO u==r:=by rw[e];exact Z5a (λk=>m.rgO k==r) _
 cases y;refine AW.weak (Weak.rng (l:=[(3,.ptr 103 t 0),(6,.ptr 106 j 0)]) z ⟨rfl,rfl,trivial⟩) ?_;refine Z ?_;rw[<- e];refine AW.weak (Weak.rng (l:=[(3,.ptr 103 t 0),(6,.ptr 106 j 0)]) z ⟨rfl,rfl,trivial⟩) ?_;refine Z ?_;rw[<- e]
def Sl.co{α : Type}(s:Sl α):Sl α := match s with|.nil=>.nil|.mk _ l=>.mk false l
theorem Zqy{α : Type}(s:Sl α):s.co.l=s.l:=by cases s<;>rfl
theorem O1(G:Nat->V)(c:Col)(s:Sl Int)(a:s.l.length<1000000):Spec Tryz.prog G 86 [Za c 1 (V.int .i64) s] Zj (λv _=>v=Za .new 1 (V.int .i64) s.co):=by
 refine Zo 0 8 [.tmp 2] Tryz.func86 λX=>?_
 cases s with
 |nil=>exact Zr
 |mk b l=>
  have e:l.length<1000000:=a;have d:Za c 1 (V.int .i64) (.mk b l)=.slice c b 1 (l.map (V.int .i64)):=rfl;rw[d];refine Z ?_;intro g;refine⟨Z4 zo (by rw[List.length_map];omega),λh=>?_⟩;refine Zs ?_;refine AW.weak (Zl (λo=>o==5) (l:=[(2,Za .new 1 (V.int .i64) (.mk false l))]) (m:=[]) ?_ trivial) ?_;rw[List.length_map];refine Zs ?_;exact Xa (f:=V.int .i64) rfl rfl λ_=>rfl;exact Zr
theorem Gd(G:Nat->V)(a:Y6 G)(b c d:Col)(x:IxM)(m:PM)(e:IxP m x)(f:m.ways.length<1000000)(v:Int)(o:0<=v)(k:v<m.vertices.length):
  Spec Tryz.prog G 55 [Uj b c d x,.int .i64 v] Zj (λw _=>∃ s:Sl Int,s.l=m.outI v/\w=Za .new 1 (V.int .i64) s):=by
 refine Zo 0 18 [.tmp 4] Tryz.func55 λX=>?_;obtain⟨n,p,rfl,i,j,h⟩:=e.at o k
 have q:(decide ((0:Int)<=(n:Int))&&decide ((n:Int)<x.places.l.length))=true:=by rw[Bool.and_eq_true];exact⟨zT,zT⟩
 refine Z ?_;refine Zc a ?_ (s:=Wm G _ _ _ _ _);refine Zg (zi q (zi j (zi i (zi Vj (zi V0 Yh))))) ?_
 have g:p.out.l.length<1000000:=by rw[h.2.2.2.2.1,PM.outI];exact Nat.lt_of_le_of_lt (PM.wysI_len _ _ _) f
 refine Zc a ?_ (s:=O1 G _ _ g);refine Z ?_;exact⟨p.out.co,by rw[Zqy];exact h.2.2.2.2.1,rfl⟩
def anO{τ : Type}(s:Option τ):Option Code:=match s with|none=>none|some _=>some .ret
theorem Q8{κ τ : Type}(p : κ -> Bool)(g : κ -> τ):∀ xs:List κ,(Yx (fun(_:Option τ) k=>((anO (if p k=true then some (g k)else none)).isNone,(if p k=true then some (g k)else none))) none xs).2=(xs.find? p).map g
 |[]=>rfl
 |k::r=>by
  rw[Yx,List.find?_cons];cases q:p k;exact Q8 p g r;rfl
def PM.lowB(m:PM)(s k:Int):Bool:=m.around k==s && !decide (0<=(m.vx k).of)
theorem PM.Acy.low_eq{m:PM}(a:m.Acy){v s:Int}(d:0<=v)(h:v<m.vertices.length)(i:0<=s):(((Ma m v).find? (m.lowB s)).map m.rgO).getD (-1)=m.regU v s:=by
 have e:Ma m v=v::m.ups v:=if_pos d;rw[e]
 cases q:(v::m.ups v).find? (m.lowB s)with
 |some u=>
  have c:=List.mem_of_find?_eq_some q;have b:=List.find?_some q;unfold PM.lowB at b;simp only[Bool.and_eq_true,Bool.not_eq_true',decide_eq_false_iff_not,beq_iff_eq]at b;rw[a.regU_of d h i c b.1]
  show m.rgO u=_
  rw[PM.rgO,if_neg b.2]
 |none=>
  rw[List.find?_eq_none]at q
  cases f:(v::m.ups v).find? (λu=>m.around u==s)with
  |none=>rw[PM.regU,f]<;>rfl
  |some u=>
   have c:=List.mem_of_find?_eq_some f;have b:=List.find?_some f;have g:=q u c;have j:=a.chain d h c;unfold PM.lowB at g;rw[b,Bool.true_and,Bool.not_eq_true,Bool.not_eq_false',decide_eq_true_eq]at g;rw[a.regU_of d h i c (zu b),a.pt u j.1 j.2 g]
   try rfl
theorem Br(G:Nat->V)(t:Y6 G)(b c d:Col)(x:IxM)(m:PM)(a:m.Acy)(E:IxP m x)(v s:Int)(I:0<=v)(A:v<m.vertices.length)(o:0<=s):
  Spec Tryz.prog G 149 [Uj b c d x,.int .i64 v,.int .i64 s] Zj (λw _=>w=.int .i64 (m.regU v s)):=by
 rw[<- a.low_eq I A o];refine ZoM 100 41 [.cell 6 3] Tryz.func149 λX=>?_;refine Z ?_;intro D J B;refine Z ?_;refine CallA.inl [(52,.dead),(53,.dead)] zk ?_ ((Ll G (Uj b c d x) v).mono ?_);intro p h;simp only[List.mem_cons,List.not_mem_nil,or_false]at h
 rcases h with rfl|rfl<;>rfl
 rintro w Q ⟨K,C,rfl,M,L⟩;simp -implicitDefEqProofs only[go_sem,seval,Z5,M,L];refine AW.block ?_
 refine Qy 50 100 190 150 (λu=>Ya (Ya (Ya Zj 103 (.cells .new D 0 [Uj b c d x])) 105 (.cells .new J 0 [.int .i64 s])) 106 (.cells .new B 0 [.int .i64 (u.getD 0)])) (λ_ k=>if m.lowB s k=true then some (m.rgO k)else none) anO (λ_ k=>0<=k/\k<m.vertices.length) none rfl
  (λl N=>E5 G t b c d x m a E v A K C _ zp zp) ?_ (Pb rfl λk f _=>Ir a A k f) ?_ ?_
 refine Zs ?_;exact Yp _ _ _ rfl
 .rintro l Y u k hr ⟨k0,k1⟩ hj
  cases u;rotate_left;cases hj;refine Zs ?_;refine AW.region zk ?_;refine Zs ?_;intro Z _;obtain⟨n,p,rfl,f,r,h,z,_,g,_⟩:=E.at k0 k1;cases q:(m.around (n:Int)==s)
  have e:m.lowB s (n:Int)=false:=by unfold PM.lowB;rw[q]<;>rfl
  have j:(p.parent==s)=false:=by rw[h];exact q
  refine I7 (zi j (zi r (zi f (zi Vj (zi V0 Yh))))) t ?_;refine Zf e ?_;exact⟨rfl,Yp _ _ _ rfl⟩
  have j:(p.parent==s)=true:=by rw[h];exact q
  cases i:decide (0<=(m.vx (n:Int)).of)
  have e:m.lowB s (n:Int)=true:=by unfold PM.lowB;rw[q,i]<;>rfl
  have y:p.point=false:=by rw[g];exact i
  refine I7 (zi j (zi y (zi r (zi f (zi Vj (zi V0 Yh)))))) t ?_;refine Zf (zi e (zi r (zi f (zi Vj (zi V0 Yh))))) ?_;refine AW.ret ?_;refine Xr (zi e z) ?_;exact⟨rfl,Zx7⟩
  have e:m.lowB s (n:Int)=false:=by unfold PM.lowB;rw[q,i]<;>rfl
  have y:p.point=true:=by rw[g];exact i
  refine I7 (zi j (zi y (zi r (zi f (zi Vj (zi V0 Yh)))))) t ?_;refine Zf e ?_;exact⟨rfl,Yp _ _ _ rfl⟩
 rintro P H o F O;rw[Q8]at o;rw[<- o];cases H;refine AW.weak (Weak.rng (l:=[(3,.ptr 103 D 0),(6,.ptr 106 B 0)]) F ⟨rfl,rfl,trivial⟩) ?_;refine Z ?_;rfl;refine AW.weak (Weak.rng (l:=[(3,.ptr 103 D 0),(6,.ptr 106 B 0)]) F ⟨rfl,rfl,trivial⟩) ?_;refine Z ?_;rfl
theorem Zky{m:PM}(a:m.Acy){v:Int}(c:0<=v)(b:v<m.vertices.length):Ma m (m.around v)=m.ups v:=by
 unfold Ma
 by_cases h:0<=m.around v
 rw[if_pos h,a.ups_cons c b h];rw[if_neg h,PM.Acy.ups_nil zo]
theorem PM.Acy.ar1{m:PM}(a:m.Acy){v:Int}(c:0<=v)(b:v<m.vertices.length):m.around v<m.vertices.length:=by rcases a.rng v c b with q|q<;>omega
theorem Zck{α : Type}(p : α -> Bool):∀ l:List α,((l.find? p).map λ_=>true).getD false=l.any p
 |[]=>rfl
 |x::r=>by
  rw[List.find?_cons,List.any_cons];cases q:p x;exact Zck p r;rfl
theorem C8(m:PM)(a b:Int):∀ l:List Int,((l.find? λk=>m.bothB a b k).map λk=>m.regU a k != m.regU b k).getD false=m.orthoF a b l
 |[]=>rfl
 |x::r=>by
  rw[List.find?_cons,PM.orthoF];cases q:m.bothB a b x;rw[if_neg zS];exact C8 m a b r;rfl
theorem IxP.rc{m:PM}{x:IxM}(h:IxP m x)(g:Col->Col):IxP m (x.rc g):=⟨h.len,h.par,h.reg,h.st,h.pt,h.out,h.into⟩
theorem Ziq(G:Nat->V)(F:Y6 G)(b c d:Col)(x:IxM)(m:PM)(a:m.Acy)(n:IxP m x)(v s:Int)(h:0<=v)(g:v<m.vertices.length)(s0:0<=s)(K:s<m.vertices.length)(y:m.kd s=1):
  Spec Tryz.prog G 80 [Uj b c d x,.int .i64 v,.int .i64 s] Zj (λw _=>w=.bool ((m.ups v).any λk=>k==s)):=by
 rw[<- Zky a h g,<- Zck];refine ZoM 100 43 [.cell 6 4] Tryz.func80 λX=>?_;obtain⟨nv,Q,rfl,t,z,o,_⟩:=n.at h g;obtain⟨f,ps,rfl,u,A,_,_,r,_⟩:=n.at s0 K
 have es:ps.state=true:=by rw[r,y]<;>rfl
 have t1:(decide ((0:Int)<=(nv:Int))&&decide ((nv:Int)<x.places.l.length))=true:=by rw[Bool.and_eq_true];exact⟨zT,zT⟩
 have I:(decide ((0:Int)<=(f:Int))&&decide ((f:Int)<x.places.l.length))=true:=by rw[Bool.and_eq_true];exact⟨zT,zT⟩
 refine Z ?_;intro L B;refine Z6 (Z6 (Zy ⟨λi=>if i=2 then .bool true else if i=7 then .bool true else .top,λ_=>.pure⟩ zk F zk zk ?_));simp -implicitDefEqProofs only[go_sem,seval,A,u,es,Vj,V0,@Int.natCast_nonneg,@Int.ofNat_lt];refine⟨⟨zk,?_⟩,⟨zk,?_⟩,?_⟩;simp -implicitDefEqProofs only[go_sem,seval,<- V0]
 exact(Wm G _ _ _ _ _).mono λv _ e=>by rw[e];exact congrArg V.bool t1
 simp -implicitDefEqProofs only[go_sem,seval,<- V0]
 exact(Wm G _ _ _ _ _).mono λv _ e=>by rw[e];exact congrArg V.bool I
 refine Zf (zi z (zi t (zi Vj (zi V0 Yh)))) ?_;refine CallA.inl [(52,.dead),(53,.dead)] zk ?_ ((Ll G (Uj _ _ _ _) _).mono ?_);intro p E;simp only[List.mem_cons,List.not_mem_nil,or_false]at E
 rcases E with rfl|rfl<;>rfl
 rintro w T ⟨M,C,rfl,O,N⟩;simp -implicitDefEqProofs only[go_sem,seval,Z5,O,N,o];refine AW.block ?_
 refine Qy 50 100 190 150 (λj=>Ya (Ya Zj 105 (.cells .new L 0 [.int .i64 f])) 106 (.cells .new B 0 [.bool (j.getD false)])) (λ_ k=>if(k==(f:Int))=true then some true else none) anO (λ_ k=>0<=k/\k<m.vertices.length) none rfl
  (λl P=>E5 G F b c d x m a n _ (a.ar1 h g) M C _ zp zp) ?_ (Pb rfl λk y _=>Ir a (a.ar1 h g) k y) ?_ ?_
 refine Zs ?_;exact Yp _ _ _ rfl
 .rintro l Y j k hr ⟨k0,k1⟩ hj
  cases j;rotate_left;cases hj;refine Zs ?_;refine AW.region zk ?_;refine Zs ?_;intro Z _;cases q:(k==(f:Int));refine Zf q ?_;exact⟨rfl,Yp _ _ _ rfl⟩;refine Zf q ?_;refine AW.ret ?_;refine Xr q ?_;exact⟨rfl,Zx7⟩
 rintro S J D H R;rw[Q8]at D;rw[<- D];cases J;refine AW.weak (Weak.rng (l:=[(6,.ptr 106 B 0)]) H ⟨rfl,trivial⟩) ?_;refine Z ?_;rfl;refine AW.weak (Weak.rng (l:=[(6,.ptr 106 B 0)]) H ⟨rfl,trivial⟩) ?_;refine Z ?_;rfl
theorem D4(G:Nat->V)(f:Y6 G)(b c d:Col)(x:IxM)(m:PM)(a:m.Acy)(g:IxP m x)(v s:Int)(j:0<=v)(h:v<m.vertices.length)(s0:0<=s)(B:s<m.vertices.length):
  Spec Tryz.prog G 99 [Uj b c d x,.int .i64 v,.int .i64 s] Zj (λw _=>w=.bool (m.orthoB v s)):=by
 rw[<- a.ortho_first j h s0 B,<- Zky a j h,<- C8];refine ZoM 100 48 [.cell 6 4] Tryz.func99 λX=>?_
 have t1:(decide (0<=v)&&decide (v<x.places.l.length))=true:=by rw[Bool.and_eq_true,g.len];exact⟨zT,zT⟩
 have F:(decide (0<=s)&&decide (s<x.places.l.length))=true:=by rw[Bool.and_eq_true,g.len];exact⟨zT,zT⟩
 refine Z ?_;intro L K J z;refine Z ?_;refine Zc f ?_ (s:=Wm G _ _ _ _ _);refine Zg t1 ?_;refine Zc f ?_ (s:=Wm G _ _ _ _ _);refine Zg F ?_;obtain⟨nv,Q,rfl,u,y,t,_⟩:=g.at j h;refine Zy ⟨λ_=>.top,λi=>if i=9 then .any else .pure⟩ zk f zk zk ?_;simp -implicitDefEqProofs only[go_sem,seval,y,u,Vj,V0,@Int.natCast_nonneg,@Int.ofNat_lt];refine CallA.inl [(52,.dead),(53,.dead)] zk ?_ ((Ll G (Uj _ _ _ _) _).mono ?_);intro p D;simp only[List.mem_cons,List.not_mem_nil,or_false]at D
 rcases D with rfl|rfl<;>rfl
 rintro w W ⟨M,A,rfl,O,N⟩;simp -implicitDefEqProofs only[go_sem,seval,Z5,O,N,t];refine AW.block ?_
 refine Qy 50 100 190 150 (λo=>Ya (Ya (Ya (Ya Zj 103 (.cells .new L 0 [Uj b c d x])) 104 (.cells .new K 0 [.int .i64 nv])) 105 (.cells .new J 0 [.int .i64 s])) 106 (.cells .new z 0 [.bool (o.getD false)])) (λ_ k=>if m.bothB (nv:Int) s k=true then some (m.regU (nv:Int) k != m.regU s k)else none) anO (λ_ k=>0<=k/\k<m.vertices.length) none rfl
  (λl P=>E5 G f b c d x m a g _ (a.ar1 j h) M A _ zp zp) ?_ (Pb rfl λk I _=>Ir a (a.ar1 j h) k I) ?_ ?_
 refine Zs ?_;exact Yp _ _ _ rfl
 .rintro l Y o k hr ⟨k0,k1⟩ hj
  cases o;rotate_left;cases hj;refine Zs ?_;refine AW.region zk ?_;refine Zs ?_;intro Z _;refine AW.block ?_
  repeat refine Z6 ?_
  refine Zy ⟨λi=>if i=3 then .int .i64 (m.regU (nv:Int) k)else .int .i64 (m.regU s k),λ_=>.pure⟩ zk f zk zk ?_;refine Zs ?_;refine⟨⟨zk,?_⟩,⟨zk,?_⟩,?_⟩;simp -implicitDefEqProofs only[go_sem,seval]
  exact(Br G f _ _ _ _ m a (g.rc _) _ _ j h k0).mono λv _ e=>by rw[e]<;>rfl
  simp -implicitDefEqProofs only[go_sem,seval]
  exact(Br G f _ _ _ _ m a (g.rc _) _ _ s0 B k0).mono λv _ e=>by rw[e]<;>rfl
  by_cases T:0<=m.regU (nv:Int) k
  have n:decide (m.regU (nv:Int) k>=0)=true:=zT
  by_cases S:0<=m.regU s k
  have r:decide (m.regU s k>=0)=true:=zT
  have q:m.bothB (nv:Int) s k=true:=by unfold PM.bothB;rw[Bool.and_eq_true];exact⟨zT,zT⟩
  refine Zf (zi q (zi n r)) ?_;refine AW.ret ?_;refine Xr q ?_;exact⟨rfl,Zx7⟩;have r:decide (m.regU s k>=0)=false:=zF
  have q:m.bothB (nv:Int) s k=false:=by unfold PM.bothB;rw[Bool.and_eq_false_iff];exact .inr zF
  refine Zf (zi q (zi n r)) ?_;exact⟨rfl,Yp _ _ _ rfl⟩;have n:decide (m.regU (nv:Int) k>=0)=false:=zF
  have q:m.bothB (nv:Int) s k=false:=by unfold PM.bothB;rw[Bool.and_eq_false_iff];exact .inl zF
  refine Zf (zi q n) ?_;exact⟨rfl,Yp _ _ _ rfl⟩
 rintro U H C E R;rw[Q8]at C;rw[<- C];cases H;refine AW.weak (Weak.rng (l:=[(6,.ptr 106 z 0)]) E ⟨rfl,trivial⟩) ?_;refine Z ?_;rfl;refine AW.weak (Weak.rng (l:=[(6,.ptr 106 z 0)]) E ⟨rfl,trivial⟩) ?_;refine Z ?_;rfl
end Go.Hs
end
