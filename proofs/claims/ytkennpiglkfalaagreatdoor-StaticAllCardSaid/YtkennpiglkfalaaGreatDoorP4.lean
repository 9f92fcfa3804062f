/- A part. No condition. -/
import Derived.Test.YtkennpiglkfalaaGreatDoorP3
import Derived.Laws.Small
import Derived.Laws.Cover1
import Derived.MapKept
set_option linter.all false
open List renaming length->aa
open Bool renaming false->ab,true->ad
open Option renaming some->ae,none->ah
open Go.Builtin renaming len_->aZ
open Go.Instr renaming checkKey->a8,findKey->a_,findNow->ba,lookup->bc,sameNow->bf,typeAssert->bg
open Go.Result renaming andThen_ok->aB
open Go.Sem renaming run_bind->aC,run_pure->aD
namespace Go.Hs
section
variable{P:Program}{X:Cx}{w:World}
def B5(P:Program)(t:TypeId)(a:V):Option V:=
 match P.underlying t,a with|some .string,.AB s=>ae (.int .i64 (aa s))|some (.slice _),.AG=>ae (.int .i64 0)|some (.slice _),.slice _ _ _ l=>ae (.int .i64 (aa l))|some (.slice _),.A_ _ _ _ len _=>ae (.int .i64 len)|some (.array n _),_=>ae (.int .i64 n)|some (.map _ _),.FE=>ae (.int .i64 0)|_,_=>ah
def sE{t a v x ats ty}(d:ats[0]?=ae t)(e:AI X x a)(h:B5 P t a=ae v):∃ c,(aZ ats ty #[x]).run P w=.ok c w/\AI X c v:=by unfold B5 at h;split at h<;>simp only[GI,reduceCtorEq]at h<;>subst h<;>rename_i b;obtain⟨q,rfl,rfl⟩:=e.str_inv;refine⟨.int .i64 q.size,by simp[aZ,d,Zt b,goInt],?_⟩;have:q.size=aa q.data.toList:=(IW).symm;rw[this];exact .int _ _;cases e;exact⟨.int .i64 0,by simp[aZ,d,Zt b,goInt],.int _ _⟩;cases e<;>exact⟨.int .i64 _,by simp[aZ,d,Zt b,goInt];try rfl,.int _ _⟩;cases e;exact⟨.int .i64 _,by simp[aZ,d,Zt b,goInt],.int _ _⟩;exact⟨.int .i64 _,by simp[aZ,d,Zt b,goInt],.int _ _⟩;cases e;exact⟨.int .i64 0,by simp[aZ,d,Zt b,goInt],.int _ _⟩
structure CI(X:Cx)(xs:List Value)(l:List V):Prop where
 len:aa xs=aa l
 one:∀ x∈xs,x.oneCell'=ad
 CV:∀ i (h1:i<aa xs) (h2:i<aa l),AI X xs[i] l[i]
def CI.nil:CI X [] []:=⟨rfl,zS,zS⟩
abbrev LP:=@CI.nil
def P8{x v xs l}(c:x.oneCell'=ad)(h:AI X x v)(b:CI X xs l):CI X (x::xs) (v::l) where
 len:=by simp[b.len]
 one:=λy a=>by rcases a with _|⟨_,a⟩;grind;exact b.one y a
 CV:=λi d h2=>by rcases i with _|i;exact h;exact b.CV i zG zG
def CI.append{xs ys l m}(h:CI X xs l)(k:CI X ys m):CI X (xs++ys) (l++m) where
 len:=by simp[h.len,k.len]
 one:=λy a=>by rcases DX.1 a with a|a;exact h.one y a;exact k.one y a
 CV:=λi d h2=>by have c:=h.len;by_cases b:i<aa xs;rw[OV b,OV zo];exact h.CV _ _ _;rw[QI zo,QI zo];have:=k.CV (i-aa xs) zG zG;grind
def CI.take{xs l}(h:CI X xs l)(n):CI X (xs.take n) (l.take n) where
 len:=by simp[h.len]
 one:=λy a=>h.one y (OX a)
 CV:=λi b h2=>by rw[cJ,cJ];exact h.CV _ _ _
def CI.drop{xs l}(h:CI X xs l)(n):CI X (xs.drop n) (l.drop n) where
 len:=by simp[h.len]
 one:=λy a=>h.one y (OW a)
 CV:=λi b h2=>by rw[cI,cI];exact h.CV _ _ _
def CI.set{xs l}(h:CI X xs l)(n){x v}(c:x.oneCell'=ad)(b:AI X x v):CI X (xs.set n x) (l.set n v) where
 len:=by simp[h.len]
 one:=λy a=>by rcases List.mem_or_eq_of_mem_set a with a|rfl;exact h.one y a;grind
 CV:=λi d h2=>by rw[JT,JT];split;grind;exact h.CV _ _ _
def CI.toAgg{xs l}(h:CI X xs l):AI X (.agg xs.toArray) (.agg l):=
 .agg _ _ (zu h.len) (zu h.one) (λi a h2=>by simpa using h.CV i zG h2)
def CI.mono{Y}(a:X.le Y){xs l}(h:CI X xs l):CI Y xs l:=
 ⟨h.len,h.one,λi b h2=>(h.CV i b h2).mono a⟩
def V.solid:V->Bool
 |.top|.tuple _=>ab|_=>ad
def AI.toC{x v}(h:AI X x v)(b:v.solid=ad):CI X x.cells.toList v.cells:=by
 cases h<;>try(simp[V.solid]at b)
 case agg xs l hx ho hr=>exact⟨by simpa[Value.cells,V.cells]using hx,by simpa[Value.cells]using ho,λi c h2=>by
  have a:i<xs.size:=by simpa[Value.cells]using c
  have:=hr i a h2;exact this⟩
 all_goals refine P8 rfl ?_ LP
 case bool=>exact .bool _
 case int=>exact .int _ _
 case AB h=>exact .AB _ _ h
 case ET=>exact .ET
 case view hc hr=>exact .view _ _ _ _ _ hc hr
 case ptr h=>exact .ptr _ _ _ _ _ h
 case AG=>exact .AG
 case slice hcap hclip hE hc hr=>exact .slice _ _ _ _ _ _ _ _ hcap hclip hE hc hr
 case slice0=>exact .slice0 _ _ _ _
 case A_ h hcap hb=>exact .A_ _ _ _ _ _ _ _ _ h hcap hb
 case func hx hy hxr hyr=>exact .func _ _ _ _ _ hx hy hxr hyr
 case CN=>exact .CN
 case iface h=>exact .iface _ _ _ h
 case GE=>exact .GE
 case FE=>exact .FE
 case DF=>exact .DF _ _
 case FM hs0 hb hk hv hkr hvr=>exact .FM _ _ _ _ _ hs0 hb hk hv hkr hvr
def setAt(cells:List V)(off:Nat):List V->List V
 |[]=>cells|v::r=>setAt (cells.set off v) (off+1) r
def M8(cells:List Value)(off:Nat):List Value->List Value
 |[]=>cells|v::r=>M8 (cells.set off v) (off+1) r
def Gs:∀ {vs} {ms} {xs} {l} off,CI X xs l->CI X vs ms->CI X (M8 xs off vs) (Hs.setAt l off ms)
 |[],[],xs,l,off,h,_=>h|[],_::_,_,_,_,_,k=>by have:=k.len;simp at this|_::_,[],_,_,_,_,k=>by have:=k.len;simp at this|x::vs,v::ms,xs,l,off,h,k=>by have c:=k.CV 0 zS zS;have a:=k.one x zS;have b:CI X vs ms:=⟨by have:=k.len;grind,λy d=>k.one y zG,λi e h2=>k.CV (i+1) zG zG⟩;exact Gs (off+1) (h.set off a c) b
def Fk:∀ vs k (cs:Array Value) off,
  ((vs.zipIdx k).foldl (λcs (p:Value×Nat)=>cs.setIfInBounds (off+p.2) p.1) cs).toList=M8 cs.toList (off+k) vs
 |[],k,cs,off=>rfl|v::r,k,cs,off=>by rw[List.zipIdx_cons,QF,Fk r _];simp[M8,GM]
def Tj(P:Program)(t:TypeId):Option V:=(P.info? t).bind λi=>i.zero.bind OD
def Qc{t v}(h:Tj P t=ae v):∃ x,(zeroValue t).run P w=.ok x w/\AI X x v:=by unfold Tj at h;rcases b:P.info? t with _|i;grind;simp only[b]at h;rcases a:i.zero with _|x;grind;simp only[a,IK]at h;exact⟨x,by simp[zeroValue,typeInfo,b,a],Dg X h⟩
def Uo(place:Nat->Option (Nat×Nat))(cells:List V):List (Nat×V)->Option (List V)
 |[]=>ae cells|(i,v)::rest=>match place i with|none=>ah|some (off,size)=>if v.solid=ad/\aa v.cells=size/\off+size<=aa cells then Uo place (setAt cells off v.cells) rest else ah
def Px:∀ vs cells off,aa (setAt cells off vs)=aa cells
 |[],_,_=>rfl|v::r,cells,off=>by simp[setAt,Px r]
def Is(place):∀ CC ps cells xs l,
  ps.length=CC.length->(∀ i h1 (h2:i<CC.length),ps[i].1=CC[i].1/\AI X ps[i].2 CC[i].2)->CI X xs.toList cells->Uo place cells CC=ae l ->
  ∃ ys,Instr.fill place xs ps=ae ys/\CI X ys.toList l
 |[],ps,cells,xs,l,hl,_,hC,h=>by simp at hl;subst hl;simp[Uo]at h;subst h;exact⟨xs,rfl,hC⟩
 |(i,v)::rest,[],_,_,_,hl,_,_,_=>by grind|(i,v)::rest,(j,x)::ps,cells,xs,l,hl,hr,hC,h=>by
  obtain⟨k,d⟩:=hr 0 zS zS;simp only[QJ]at k d;subst k;simp only[Uo]at h;rcases q:place j with _|p;grind;obtain⟨c,size⟩:=p;simp only[q]at h;split at h;rename_i r;obtain⟨h1,h2,t⟩:=r;have f:=d.toC h1;have g:=hC.len;have n:=f.len;obtain⟨ys,m,hrel⟩:=Is _ _ ps _ _ l (zu hl)
   (λi a b=>by have:=hr (i+1) (zu a) (zu b);simpa using this)
   (by
    have e:(x.cells.zipIdx.foldl (λs  p=>s.setIfInBounds (c+p.2) p.1) xs).toList=M8 xs.toList c x.cells.toList:=by have:=Fk x.cells.toList 0 xs c;rw[<- Array.foldl_toList];simpa using this
    rw[e];exact Gs c hC f) h
  refine⟨ys,?_,hrel⟩;simp only[Instr.fill,q];have o:x.cells.size=size:=by simp at n;omega
  rw[AA (by simp at g;simp[o];omega)];exact m;simp at h
def S3(P:Program)(t:TypeId)(CC:List (Nat×V)):Option V:=
 match P.underlying t,Tj P t with
 |some (.struct fs),ae z=>if(fs.toList.all λf=>(Y0 P f.type).isSome)&&z.solid then(Uo (λi=>(fs[i]?).bind λf=>(Y0 P f.type).map λn=>(f.offset,n)) z.cells CC).map .agg else ah|some (.array _ e),ae z=>match Y0 P e with|some n=>if z.solid then(Uo (λi=>ae (i*n,n)) z.cells CC).map .agg else ah|none=>ah
 |_,_=>ah
def zb(a:List Field)(h:(a.all λf=>(Y0 P f.type).isSome)=ad):(a.mapM λf=>(do pure (f.offset,<- sizeOf f.type):Sem (Nat×Nat))).run P w=.ok (a.map λf=>(f.offset,(Y0 P f.type).getD 0)) w:=by induction a with|nil=>simp|cons f r ih=>simp only[HQ,BP]at h;obtain⟨n,b⟩:=QR.1 h.1;simp only[cM,aC,Y8 b,aB,aD,ih h.2,BI,b,WO]
def rQ{t CC ps v}(A:ps.toList.length=CC.length)(y:∀ i h1 (h2:i<CC.length),ps.toList[i].1=CC[i].1/\AI X ps.toList[i].2 CC[i].2)(h:S3 P t CC=ae v):∃ c,(Instr.build t ps).run P w=.ok c w/\AI X c v:=by
 unfold S3 at h;split at h;rename_i j z s q;split at h;rename_i B;simp only[BP]at B;obtain⟨k,a⟩:=B;simp only[I_]at h;obtain⟨l,h,rfl⟩:=h;obtain⟨x,r,g⟩:=Qc (w:=w) q;obtain⟨p,d,hrel⟩:=Is _ _ _ _ _ l A y (g.toC a) h;refine⟨.agg p,?_,by have:=hrel.toAgg;simpa using this⟩;have u:(j.mapM λf=>(do pure (f.offset,<- sizeOf f.type):Sem (Nat×Nat))).run P w=.ok (j.map λf=>(f.offset,(Y0 P f.type).getD 0)) w:=by rw[lQ,Sem.run_map,zb _ k,aB];rw[<- Array.toList_map]
 have b:(fun(i:Nat)=>(j.map fun  f=>(f.offset,(Y0 P f.type).getD 0))[i]?)=λi=>(j[i]?).bind λf=>(Y0 P f.type).map λn=>(f.offset,n):=by
  funext i;rw[Array.getElem?_map];rcases D:j[i]? with _|f;rfl;have o:f∈j.toList:=by grind
  have:=ER.1 k f o;obtain⟨n,C⟩:=QR.1 this;simp[C]
 simp only[Instr.build,aC,r,aB,Zt s,u,b,d,aD];grind;rename_i n e z s q;split at h;rename_i m u;split at h;rename_i a;simp only[I_]at h;obtain⟨l,h,rfl⟩:=h;obtain⟨x,r,g⟩:=Qc (w:=w) q;obtain⟨p,d,hrel⟩:=Is _ CC ps.toList z.cells x.cells l A y (g.toC a) h;refine⟨.agg p,?_,by have:=hrel.toAgg;simpa using this⟩;simp[Instr.build,r,Zt s,Y8 u,d];simp at h;simp at h;simp at h
def Uc(P:Program)(t:TypeId)(a:V):Option V:=
 match a with|.view _ (.agg l)=>if R1 P t=ae ad/\Y0 P t=ae (aa l) then ae (.agg l)else ah|.view _ .top=>ah|.view _ (.tuple _)=>ah|.view _ v=>if R1 P t=ae ab then ae v else ah|_=>ah
def G5{t a v x}(m:AI X x a)(o:X.w=w)(h:Uc P t a=ae v):∃ c,(Instr.loadAt t x).run P w=.ok c w/\AI X c v:=by
 subst o;unfold Uc at h;split at h;rename_i c l;split at h
 .rename_i hc;simp at h;subst h;cases m with
  |view _ _ b off f h1 h2=>
   have r:=run_loadCells (P:=P) _ _ (aa l) f (λj s=>by rw[Addr.add_lit];exact(h1 j s).2.2.1)
   refine⟨.agg ((List.range (aa l)).map f).toArray,by simp[Instr.loadAt,Instr.sureAddr,loadVar,P6 hc.1,Y8 hc.2,r],?_⟩;refine CI.toAgg ⟨zS,?_,?_⟩;intro y k;simp only[CY,DC]at k;obtain⟨i,B,rfl⟩:=k;exact(h1 i B).2.2.2;intro i A z;simp only[FG,LI];exact h2 i _
 grind
 iterate 2 grind
 rename_i c u g q p;split at h
 .rename_i hc;simp at h;subst h;cases m with
  |view _ _ b off f h1 h2=>
   have d:u.cells=[u]:=by cases u<;>first|rfl|(simp at g)
   have C:=h1 0 (by rw[d];simp);have n:=h2 0 (by rw[d];simp);simp only[d,QJ]at n;refine⟨f 0,?_,n⟩;have e:X.w.cell? ⟨b,off,ah⟩=ae _:=C.2.2.1;simp[Instr.loadAt,Instr.sureAddr,loadVar,P6 hc,e]
 simp at h;simp at h
def KR:List V->Option V
 |[.int k x,.int _ y]=>ae (.int k (if y>x then y else x))|[.int k x,.int _ y,.int _ z]=>ae (.int k (if z>(if y>x then y else x)then z else(if y>x then y else x)))|_=>ah
def PJ:List V->Option V
 |[.int k x,.int _ y]=>ae (.int k (if y<x then y else x))|_=>ah
def R3:TypeDesc->V->List V->List V->Option (Option V)
 |.int _,.int _ _,[],[]=>ae ah|.string,.AB _,[],[]=>ae ah|.int q,.int k a,.int k' b::ks,v::vs=>if k=k' then(if a=b then ae (ae v)else R3 (.int q) (.int k a) ks vs)else ah|.string,.AB a,.AB b::ks,v::vs=>if a=b then ae (ae v)else R3 .string (.AB a) ks vs|_,_,_,_=>ah
def ep{X d c x}(z:AI X c x):∀ l ks vs i r,R3 d x ks vs=ae r->l.length=ks.length->l.length=vs.length ->
  (∀ i h1 (h2:i<ks.length),AI X l[i].key ks[i])->(∀ i h1 (h2:i<vs.length),AI X l[i].val vs[i]) ->
  match r with|none=>ba d c l i=ae ah|some v=>∃ j y,ba d c l i=ae (ae (j,y))/\AI X y v
 |[],ks,vs,i,r,h,h1,h2,hk,hv=>by cases ks;cases vs;cases d<;>cases x<;>simp only[R3,reduceCtorEq,GI]at h<;>subst h<;>rfl;simp at h2;simp at h1
 |e::l,ks,vs,i,r,h,h1,h2,hk,hv=>by
  rcases ks with _|⟨k,ks⟩;simp at h1;rcases vs with _|⟨v,vs⟩;simp at h2;have m:AI X e.key k:=hk 0 zS zS;have n:AI X e.val v:=hv 0 zS zS;have D:=λr (h:R3 d x ks vs=ae r)=>ep z l ks vs (i+1) r h (zu h1) (zu h2) (λj w u=>by have:=hk (j+1) (zu w) (zu u);simpa using this) (λj w u=>by have:=hv (j+1) (zu w) (zu u);simpa using this);cases d<;>cases x<;>(try simp only[R3,reduceCtorEq]at h);rename_i q G a;cases k<;>simp only[R3,reduceCtorEq]at h;rename_i k' b;have F:=z.int_inv;have E:=m.int_inv;split at h;rename_i B;subst B;split at h;rename_i g;subst g;cases h;exact⟨i,e.val,by simp[ba,bf,F,E],n⟩;rename_i g;have f:ba (.int q) c (e::l) i=ba (.int q) c l (i+1):=by have p:(a==b)=ab:=OG g;simp only[ba,bf,F,E,EN,p]
  rw[f];exact D r h;cases h
  .rename_i a;cases k<;>simp only[R3,reduceCtorEq]at h;rename_i b;obtain⟨s,rfl,t⟩:∃ s,c=.string s/\s.data.toList=a:=by cases z with|AB s _ t=>exact⟨s,rfl,t⟩
   generalize o:e.key=H at m;cases m with|AB s' _ hs'=>
   split at h;rename_i g;cases h;have:s=s':=ByteArray.ext (Array.ext' (by rw[t,hs',g]));subst this;have p:(s==s)=ad:=(MapKept.bytes_beq _ _).2 rfl;exact⟨i,e.val,by simp only[ba,bf,o,p],n⟩;rename_i g;have A:¬s=s':=λC=>g (by rw[<- t,<- hs',C]);have p:(s==s')=ab:=by rw[FV];exact λC=>A ((MapKept.bytes_beq _ _).1 C)
   have f:ba .string (.string s) (e::l) i=ba .string (.string s) l (i+1):=by simp only[ba,bf,o,p]
   rw[f];exact D r h
def UP:V->Option (List V×List V)
 |.FM ks vs=>ae (ks,vs)|.FE=>ae ([],[])|_=>ah
def Kh(P:Program)(t:TypeId)(m x:V)(ok:Bool):Option V:=
 match P.underlying t,UP m with
 |some (.map kt et),ae (ks,vs)=>match P.underlying kt with
  |some kd=>match R3 kd x ks vs with|some (ae v)=>ae (if ok then .tuple [v,.bool ad]else v)|some ah=>(Tj P et).map λz=>if ok then .tuple [z,.bool ab]else z|none=>ah
  |none=>ah
 |_,_=>ah
def AI.two{X x v}(h:AI X x v)(b):AI X (.tuple #[x,.bool b]) (.tuple [v,.bool b]):=
 .tuple _ _ rfl (λi a h2=>by match i,h2 with|0,_=>exact h|1,_=>exact .bool b)
def Bo{w e kt kd c x ks vs r}(b:P.underlying kt=ae kd)(d:R3 kd x ks vs=ae r):(a8 e 10000 kt c).run P w=.ok () w:=by
 have a:(∃ q,kd=.int q)\/kd=.string:=by cases kd<;>cases x<;>simp[R3]at d⊢
 rcases a with ⟨q,rfl⟩|rfl;unfold a8;simp only[aC,Zt b,aB];rfl;unfold a8;simp only[aC,Zt b,aB];rfl
def fg{X kt et kd x cx}{ok:Bool}{v ks vs}(k:AI X cx x)(b:P.underlying kt=ae kd)(h:(match R3 kd x ks vs with|some (ae v)=>ae (if ok then .tuple [v,.bool ad]else v)|some ah=>(Tj P et).map λz=>if ok then .tuple [z,.bool ab]else z|none=>ah)=ae v):∀ (es:Array MapEntry),es.size=ks.length->es.size=vs.length->(∀ i h1 (h2:i<ks.length),AI X es[i].key ks[i])->(∀ i h1 (h2:i<vs.length),AI X es[i].val vs[i]) ->
   ∃ c,(a8 es.isEmpty 10000 kt cx).run P X.w=.ok () X.w/\((∃ j y,(a_ kt cx es.toList).run P X.w=.ok (ae (j,y)) X.w/\c=if ok then .tuple #[y,.bool ad]else y) \/
    ((a_ kt cx es.toList).run P X.w=.ok ah X.w/\∃ cz,(zeroValue et).run P X.w=.ok cz X.w/\c=if ok then .tuple #[cz,.bool ab]else cz))/\AI X c v:=by
 intro es p o m l;have a:∀ r,R3 kd x ks vs=ae r->match r with|none=>(a_ kt cx es.toList).run P X.w=.ok ah X.w|some v=>∃ j y,(a_ kt cx es.toList).run P X.w=.ok (ae (j,y)) X.w/\AI X y v:=by intro r n;have:=ep k es.toList ks vs 0 r n zG zG (λi h1 h2=>by grind) (λi h1 h2=>by grind);rcases r with _|v;simp only[a_,aC,Zt b,aB,this,aD];obtain⟨j,y,h1,h2⟩:=this;exact⟨j,y,by simp only[a_,aC,Zt b,aB,h1,aD],h2⟩
 split at h;rename_i u e;obtain⟨j,y,h1,h2⟩:=a _ e;cases h;refine⟨if ok then .tuple _ else y,Bo b e,.inl ⟨j,y,h1,rfl⟩,?_⟩;cases ok;exact h2;exact h2.two _
 .rename_i e;have h1:=a _ e;rcases g:Tj P et with _|z;rw[g]at h;cases h;rw[g]at h;cases h;obtain⟨cz,f,d⟩:=Qc g;refine⟨if ok then .tuple _ else cz,Bo b e,.inr ⟨h1,cz,f,rfl⟩,?_⟩;cases ok;exact d;exact d.two _
 cases h
def jJ{X t m x cm cx ok v}(C:AI X cm m)(z:AI X cx x)(h:Kh P t m x ok=ae v):∃ c,(bc t cm cx ok).run P X.w=.ok c X.w/\AI X c v:=by
 unfold Kh at h;split at h
 rotate_left;cases h;rename_i H J I G g d
 split at h
 rotate_left;cases h;rename_i kd o;have e:=fg z o h
 cases C<;>simp only[UP,reduceCtorEq]at d;obtain⟨rfl,rfl⟩:=d;obtain⟨c,f,a,h2⟩:=e #[] rfl rfl (λi a h2=>by grind) (λi a h2=>by grind);refine⟨c,?_,h2⟩;rcases a with ⟨j,y,a,rfl⟩|⟨a,F,p,rfl⟩;simp only[bc,aC,Zt g,aB,aD,f,a];simp only[bc,aC,Zt g,aB,aD,f,a,p];rename_i b n r u s B E D A l k;obtain⟨rfl,rfl⟩:=d;obtain⟨c,f,a,h2⟩:=e r D A l k;refine⟨c,?_,h2⟩;have q:(getObj b).run P X.w=.ok (.map r n) X.w:=by simp[getObj,Sem.run,E]
 rcases a with ⟨j,y,a,rfl⟩|⟨a,F,p,rfl⟩;simp only[bc,aC,Zt g,aB,aD,q,f,a];simp only[bc,aC,Zt g,aB,aD,q,f,a,p]
def XD(P:Program)(x:V)(T:TypeId)(ok:Bool):Option V:=
 match P.underlying T with|some (.interface _)=>ah|none=>ah|some _=>match x with|.iface t v=>if t=T then ae (if ok then .tuple [v,.bool ad]else v)else if ok=ad then(Tj P T).map λz=>.tuple [z,.bool ab]else ah|.GE=>if ok=ad then(Tj P T).map λz=>.tuple [z,.bool ab]else ah|_=>ah
def ABF{X x c xT T ok v}(g:AI X c x)(h:XD P x T ok=ae v):∃ c',(bg c xT T ok).run P X.w=.ok c' X.w/\AI X c' v:=by
 unfold XD at h;have a:∀ {z},(Tj P T).map (λz=>V.tuple [z,.bool ab])=ae z->∃ c',(do pure (.tuple #[<- zeroValue T,.bool ab]):Sem _).run P X.w=.ok c' X.w/\AI X c' z:=by intro z f;cases j:Tj P T with|none=>rw[j]at f;cases f|some u=>rw[j]at f;cases f;obtain⟨k,e,h2⟩:=Qc (w:=X.w) j;exact⟨_,by simp only[aC,e,aB,aD],h2.two _⟩
 cases b:P.underlying T with
 |none=>rw[b]at h;cases h|some d=>
  rw[b]at h;cases d<;>simp only[reduceCtorEq]at h
  all_goals
   cases x<;>simp only[reduceCtorEq]at h
   .rename_i t u;generalize c=c at g;cases g with
    |iface _ y _ hy=>
     by_cases i:t=T;rw[AF i]at h;cases h;refine⟨if ok then .tuple #[y,.bool ad]else y,?_,?_⟩;simp only[bg,aC,Zt b,aB,AF i,aD];cases ok;exact hy;exact hy.two ad
     .rw[AA i]at h;cases ok with|false=>simp at h|true=>simp only[EN]at h;obtain⟨c',e,h2⟩:=a h;refine⟨c',?_,h2⟩;simp only[bg,aC,Zt b,aB,AA i,EN];simpa only[aC]using e
   .generalize c=c at g;cases g with|GE=>cases ok with|false=>simp at h|true=>simp only[EN]at h;obtain⟨c',e,h2⟩:=a h;refine⟨c',?_,h2⟩;simp only[bg,aC,Zt b,aB,EN];simpa only[aC]using e
def E3(P:Program)(ρ:Operand->V)(o:Oper):Option V:=
 match o.op with
 |.move x|.assign x=>ae (ρ x)|.pick c a b=>match ρ c with|.bool ad=>ae (ρ a)|.bool ab=>ae (ρ b)|_=>ah
 |.binOp op t x y _=>Pl P op t (ρ x) (ρ y)|.unOp op _ x=>PS op (ρ x)|.convert IF dst x=>Bl P IF dst (ρ x)|.extract t i=>match ρ t with|.tuple vs=>vs[i]?|_=>ah
 |.field t x f=>YY P t (ρ x) f|.build t CC=>S3 P t (CC.toList.map λp=>(p.1,ρ p.2))|.fieldAddr t x f=>S2 P t (ρ x) f|.indexAddr t x i=>Vu P t (ρ x) (ρ i)|.index t x i=>Ok P t (ρ x) (ρ i)|.slice t x lo hi mx=>Uz P t (ρ x) (lo.map ρ) (hi.map ρ) (mx.map ρ)|.makeFunc fn first cap=>ae (.func fn (first.toList.map ρ) (cap.toList.map ρ))
 |.makeInterface t x=>match P.underlying t with|some (.interface _)=>ah|some _=>ae (.iface t (ρ x))|none=>ah
 |.nilCheck x=>match ρ x with|.view c v=>ae (.view c v)|.ptr o g off=>ae (.ptr o g off)|.func (.func f) a b=>ae (.func (.func f) a b)|_=>ah
 |.load t x=>Uc P t (ρ x)|.lookup t m x ok=>Kh P t (ρ m) (ρ x) ok|.typeAssert x _ T ok=>XD P (ρ x) T ok|.call {callee:=.builtin .len,args,argTypes}=>match args.toList,argTypes[0]? with|[x],ae t=>B5 P t (ρ x)|_,_=>ah
 |.call {callee:=.builtin .max,args,.. }=>KR (args.toList.map ρ)|.call {callee:=.builtin .min,args,.. }=>PJ (args.toList.map ρ)|_=>ah
def yc{ρ ρc o v}(F:X.w=w)(g:∀ x,AI X (ρc x) (ρ x))(h:E3 P ρ o=ae v):∃ c,(execOp ρc o).run P w=.ok (.value c) w/\AI X c v:=by
 obtain⟨M,E,A,pos,after,J⟩:=o;have e:∀ (s:Sem _),(∃ c,s.run P w=.ok c w/\AI X c v)->∃ c,(do pure (Next.value (<- s)):Sem _).run P w=.ok (.value c) w/\AI X c v:=by intro s ⟨c,u,r⟩;exact⟨c,by simp[u],r⟩
 cases E<;>simp only[E3,reduceCtorEq]at h<;>simp only[execOp]
 case move x=>simp at h;subst h;exact⟨_,rfl,g _⟩
 case assign x=>simp at h;subst h;exact⟨_,rfl,g _⟩
 case pick c a b=>
  have u:=g c;split at h<;>simp at h<;>subst h<;>rename_i H<;>rw[H]at u<;>have:=u.bool_inv
  exact⟨ρc a,by simp[this,asBool],g _⟩;exact⟨ρc b,by simp[this,asBool],g _⟩
 case binOp E t x y yt=>exact e _ (yz x y (g x) (g y) h)
 case unOp E t x=>exact e _ (xl (g x) h)
 case convert s d x=>exact e _ (nG (g x) h)
 case extract t i=>
  have C:=g t;split at h
  .rename_i vs htv;rw[htv]at C;generalize ρc t=q at *;cases C with
   |tuple xs _ j r=>
    rw[DG]at h;obtain⟨D,rfl⟩:=h;have:xs[i]?=ae (xs[i]'zo):=by simp[j,D]
    exact e _ ⟨xs[i]'zo,by simp[Instr.extract,this],r i zo D⟩
  simp at h
 case field t x f=>exact e _ (xw (g x) h)
 case build t CC=>
  refine e _ (rQ zS ?_ h);intro i n h2;simp at n h2⊢;exact g _
 case fieldAddr t x f=>exact e _ (xC (g x) h)
 case indexAddr t x i=>exact e _ (qS (g x) (g i) h)
 case index t x i=>exact e _ (tA (g x) (g i) h)
 case slice t x lo D mx=>
  have I:∀ q:Option Operand,Gr X (q.map ρc) (q.map ρ):=λq=>by cases q<;>simp[Gr,g]
  exact e _ (rq (g x) (I lo) (I D) (I mx) h)
 case makeFunc fn first cap=>
  simp at h;subst h;refine e _ ⟨_,rfl,.func fn _ _ _ _ zS zS ?_ ?_⟩;intro i n h2;simp at n h2⊢;exact g _;intro i n h2;simp at n h2⊢;exact g _
 case makeInterface t x=>
  cases G:P.underlying t with|none=>simp[G]at h|some d=>rw[G]at h;have r:=Zt (w:=w) G;cases d<;>simp at h<;>subst h<;>exact e _ ⟨.iface t (ρc x),by simp[Instr.makeInterface,r],.iface _ _ _ (g x)⟩
 case nilCheck x=>
  have j:=g x;split at h<;>simp at h<;>subst h<;>rename_i L<;>rw[L]at j<;>generalize ρc x=q at *
  .cases j with|view _ _ b off f n h2=>exact⟨_,rfl,.view _ _ b off f n h2⟩
  .cases j with|ptr _ _ _ b bs hβ => exact⟨_,rfl,.ptr _ _ _ b bs hβ⟩
  .cases j with|func _ xs ys _ _ n h2 h3 h4=>exact⟨_,rfl,.func _ xs ys _ _ n h2 h3 h4⟩
 case load t x=>exact e _ (G5 (g x) F h)
 case lookup t m x ok=>subst F;exact e _ (jJ (g m) (g x) h)
 case typeAssert x xT T ok=>subst F;exact e _ (ABF (g x) h)
 case call c=>
  obtain⟨p,k,N⟩:=c;cases p<;>(try simp only[reduceCtorEq]at h);rename_i b;cases b<;>(try simp only[reduceCtorEq]at h)
  case len=>
   split at h;rename_i x t j C;have:k = #[x]:=by cases k;simp at j;rw[j]
   subst this;obtain⟨c,u,r⟩:=sE (w:=w) (ty:=A) C (g x) h;refine⟨c,?_,r⟩;simp[resolve,invoke,builtin,u];simp at h
  case max=>
   obtain⟨l⟩:=k
   match l,h with|[x,y],h=>have j:=g x;have B:=g y;simp only[BI,BV]at h;generalize ρ x=a at *;generalize ρ y=b at *;cases a<;>cases b<;>simp only[KR,reduceCtorEq,GI]at h;subst h;refine⟨_,?_,.int _ _⟩;simp[resolve,invoke,builtin,j.int_inv,B.int_inv];rfl|[x,y,z],h=>have j:=g x;have B:=g y;have K:=g z;simp only[BI,BV]at h;generalize ρ x=a at *;generalize ρ y=b at *;generalize ρ z=c at *;cases a<;>cases b<;>cases c<;>simp only[KR,reduceCtorEq,GI]at h;subst h;refine⟨_,?_,.int _ _⟩;simp[resolve,invoke,builtin,j.int_inv,B.int_inv,K.int_inv];rfl|[],h=>simp[KR]at h|[x],h=>simp[KR]at h|_::_::_::_::_,h=>simp[KR]at h
  case min=>
   obtain⟨l⟩:=k
   match l,h with|[x,y],h=>have j:=g x;have B:=g y;simp only[BI,BV]at h;generalize ρ x=a at *;generalize ρ y=b at *;cases a<;>cases b<;>simp only[PJ,reduceCtorEq,GI]at h;subst h;refine⟨_,?_,.int _ _⟩;simp[resolve,invoke,builtin,j.int_inv,B.int_inv];rfl|[],h=>simp[PJ]at h|[x],h=>simp[PJ]at h|_::_::_::_,h=>simp[PJ]at h
