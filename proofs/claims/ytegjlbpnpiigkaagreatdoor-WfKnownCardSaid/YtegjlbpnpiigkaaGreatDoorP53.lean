/- A part. No condition. -/
import Derived.Test.YtegjlbpnpiigkaaGreatDoorP52
import Derived.Test.YtegjlbpnpiigkaaGreatDoorP50
import Derived.Test.YtegjlbpnpiigkaaGreatDoorRows
import Derived.ProofKit
import Derived.OpenShut
import Derived.LaidLaws
import Derived.Stop.LaidErr
import Derived.Lib.LaidTab
import Derived.Handed
import Derived.ChangeMaps5
import Derived.Test.YtegjlbpnpiigkaaGreatDoorCards
set_option linter.all false
section
namespace Go.Hs
open Go.Proofs
set_option maxRecDepth 10000
set_option maxHeartbeats 4000000
def Zkn(p:Bool×VtM):V:=Zha (if p.1 then .new else .old) p.2
def Zzp(p:Bool×TrM):V:=Zqa (if p.1 then .new else .old) p.2
theorem Zkl(p:Bool×VtM):(Zkn p).cells.length=8:=rfl
theorem Znl(p:Bool×TrM):(Zzp p).cells.length=8:=rfl
theorem Zke{α β : Type}(f : α -> β){l:List α}{i:Nat}{x y : α}(h:l[i]?=some x)(e:f y=f x):(l.set i y).map f=l.map f:=by
 rw[List.map_set,e];refine List.ext_getElem? λj=>?_;rw[List.getElem?_set]
 split
 rename_i q;subst q
 rw[List.length_map,if_pos (List.getElem?_eq_some_iff.1 h).1,List.getElem?_map,h]<;>rfl
 rfl
theorem Zi3{α : Type}{P : α -> Prop}{l:List α}{i:Nat}{y : α}(h:∀ x∈l,P x)(hy:P y):∀ x∈l.set i y,P x:=λx hx=>by
 rcases List.mem_or_eq_of_mem_set hx with q|rfl
 exact h x q;exact hy
structure CpV(m:MdM)(L:List (Bool×VtM)):Prop where
 p:L.map (·.2.p)=m.verts.l.map VtM.p
structure CpW(m:MdM)(L:List (Bool×TrM)):Prop where
 p:L.map (·.2.p)=m.ways.l.map TrM.p
theorem CpV.len{m:MdM}{L:List (Bool×VtM)}(h:CpV m L):L.length=m.verts.l.length:=by
 have:=congrArg List.length h.p;rwa [List.length_map,List.length_map]at this
theorem CpW.len{m:MdM}{L:List (Bool×TrM)}(h:CpW m L):L.length=m.ways.l.length:=by
 have:=congrArg List.length h.p;rwa [List.length_map,List.length_map]at this
theorem Zuba(G:Nat->V)(hG:GOk G)(c:Col)(m:MdM)(hb:MdB m):
  InSp Tryz.prog G 18 [Zx c .old m] (Zab Zk [(5205,.dead),(5305,.dead),(5405,.dead)])
   (λv H'=>∃ gr gv gw LV LW,CpV m LV/\CpW m LW/\v=.agg [.str m.name,Zb .new 2 Z3 m.vars.cl,Zb .new 1 V.str m.events.cl,objV m.regions.isNil 5205 gr 2 m.regions.l.length,objV m.verts.isNil 5305 gv 8 m.verts.l.length,objV m.ways.isNil 5405 gw 8 m.ways.l.length]/\H' 5205=Zpg m.regions.isNil gr m.regions.l.length (flat (m.regions.l.map Z3))/\H' 5305=Zpg m.verts.isNil gv m.verts.l.length (flat (LV.map Zkn))/\H' 5405=Zpg m.ways.isNil gw m.ways.l.length (flat (LW.map Zzp))):=by
 refine Zfb 0 64 [.cell 2 28] Tryz.func18 rfl rfl rfl rfl λX=>?_;simp only[Zab,Zd];have b1:=hb.nv;have b2:=hb.ne;have b3:=hb.nr;have b4:=hb.nx;have b5:=hb.nw;refine Z1 ?_;intro g1 g2;refine Z4 ?_;refine Zjfa [0,1,3,4,6,7,2,5,9,8,10,11,12,13,14] [] ⟨λj=>if j=2 then Zb .new 2 Z3 m.vars.cl else if j=5 then Zb .new 1 V.str m.events.cl else .top,λj=>if j=8 then .any else .pure⟩ zk hG zk zk zk zk ?_;simp -implicitDefEqProofs only[go_sem,seval,List.getElem?_cons_zero,List.getElem?_cons_succ];refine⟨⟨by kernel_rfl,?_⟩,⟨by kernel_rfl,?_⟩,?_⟩;simp -implicitDefEqProofs only[go_sem,seval,Zef,List.map_cons,List.map_nil]
 exact(Zax G _ m.vars zo).mono λv _ e=>by rw[e,Zef]<;>rfl
 .simp -implicitDefEqProofs only[go_sem,seval,Zgb,List.map_cons,List.map_nil]
  exact(Z5h G _ m.events zo).mono λv _ e=>by rw[e];simp -implicitDefEqProofs only[go_sem,seval,Zgb];try rfl
 show CallA _ _ _ _ _ _
 refine CallA.inl [(5205,.dead)] zk ?_ ?_;intro p hp;rw[List.mem_singleton]at hp;subst hp;exact zp;refine(Z32 G _ m.regions zo).mono ?_;rintro _ H' ⟨gr,rfl,q⟩;simp only[List.map_cons,List.map_nil,q];simp -implicitDefEqProofs only[go_sem,seval,Zab,List.getElem?_cons_zero,List.getElem?_cons_succ]
 refine Zda (fun(p:Nat×Nat)=>st [(1,.ptr 1 g1 0),(2,.ptr 2 g2 0)] [(1,.cells .new g1 0 [.str m.name,Zb .new 2 Z3 m.vars.cl,Zb .new 1 V.str m.events.cl,objV m.regions.isNil 5205 gr 2 m.regions.l.length,objV m.verts.isNil 5305 p.1 8 m.verts.l.length,objV m.ways.isNil 5405 p.2 8 m.ways.l.length]),(2,.cells .new g2 0 [.str [],.nils,.nils,.nils,.nils,.nils]),(5205,Zpg m.regions.isNil gr m.regions.l.length (flat (m.regions.l.map Z3))),
  (5305,Zpg m.verts.isNil p.1 m.verts.l.length (flat (m.verts.l.map (Zha .old)))),(5405,Zpg m.ways.isNil p.2 m.ways.l.length (flat (m.ways.l.map (Zqa .old))))]) (λ_=>True) (λK1 hK1=>?_) ?_
 refine Zifa 2 4 [0,1,3,2,4,6,5,7,8,9] [0,1,3,4,2,6,5,7,8,9] [] ⟨λ_=>.top,λj=>if j=2 then .any else if j=5 then .any else .pure⟩ zk hG zk zk zk zk zk zk zk zk ?_ ?_;simp -implicitDefEqProofs only[go_sem,seval,List.getElem?_cons_zero,List.getElem?_cons_succ];refine CallA.inl [(5305,.dead)] zk ?_ ?_;intro p hp;rw[List.mem_singleton]at hp;subst hp;exact zp;refine(Z7p G _ .old m.verts zo).mono ?_;rintro _ H2 ⟨gv,rfl,q2⟩;simp only[List.map_cons,List.map_nil,q2];simp -implicitDefEqProofs only[go_sem,seval,Zab,List.getElem?_cons_zero,List.getElem?_cons_succ];refine CallA.inl [(5405,.dead)] zk ?_ ?_;intro p hp;rw[List.mem_singleton]at hp;subst hp;exact zp;refine(Z8p G _ .old m.ways zo).mono ?_;rintro _ H3 ⟨gw,rfl,q3⟩;simp only[List.map_cons,List.map_nil,q3];simp -implicitDefEqProofs only[go_sem,seval,Zab,List.getElem?_cons_zero,List.getElem?_cons_succ];exact hK1 _ (gv,gw) trivial (Za zp zp);simp -implicitDefEqProofs only[go_sem,seval,List.getElem?_cons_zero,List.getElem?_cons_succ];refine CallA.inl [(5305,.dead)] zk ?_ ?_;intro p hp;rw[List.mem_singleton]at hp;subst hp;exact zp;refine(Z7p G _ .old m.verts zo).mono ?_;rintro _ H2 ⟨gv,rfl,q2⟩;simp only[List.map_cons,List.map_nil,q2];simp -implicitDefEqProofs only[go_sem,seval,Zab,List.getElem?_cons_zero,List.getElem?_cons_succ];refine CallA.inl [(5405,.dead)] zk ?_ ?_;intro p hp;rw[List.mem_singleton]at hp;subst hp;exact zp;refine(Z8p G _ .old m.ways zo).mono ?_;rintro _ H3 ⟨gw,rfl,q3⟩;simp only[List.map_cons,List.map_nil,q3];simp -implicitDefEqProofs only[go_sem,seval,Zab,List.getElem?_cons_zero,List.getElem?_cons_succ];exact hK1 _ (gv,gw) trivial (Za zp zp)
 rintro⟨gv,gw⟩ _;simp only;refine Z ?_
 refine Z9 m.verts.l.length (λk (LV:List (Bool×VtM))=>st [(1,.ptr 1 g1 0),(2,.ptr 2 g2 0),(27,.int .i64 m.verts.l.length),(28,.int .i64 k)] [(1,.cells .new g1 0 [.str m.name,Zb .new 2 Z3 m.vars.cl,Zb .new 1 V.str m.events.cl,objV m.regions.isNil 5205 gr 2 m.regions.l.length,objV m.verts.isNil 5305 gv 8 m.verts.l.length,objV m.ways.isNil 5405 gw 8 m.ways.l.length]),(2,.cells .new g2 0 [.str [],.nils,.nils,.nils,.nils,.nils]),(5205,Zpg m.regions.isNil gr m.regions.l.length (flat (m.regions.l.map Z3))),(5305,Zpg m.verts.isNil gv m.verts.l.length (flat (LV.map Zkn))),(5405,Zpg m.ways.isNil gw m.ways.l.length (flat (m.ways.l.map (Zqa .old))))])
  (λ_ LV=>CpV m LV) 0 (m.verts.l.map λx=>(false,x)) (Nat.zero_le _) ⟨by rw[List.map_map]<;>rfl⟩ (Za zp (by refine Zs ?_;rw[List.map_map]<;>rfl)) ?_
 intro k LV hk hR L3 hL3
 by_cases hk1:k<m.verts.l.length
 have hlv:=hR.len;have hlt:decide ((k:Int)<(m.verts.l.length:Int))=true:=zT;have hn0:m.verts.l.length≠0:=zo;have hg:=List.getElem?_eq_getElem (l:=LV) (i:=k) zo
 have hdl:(LV[k]'zo).2.defers.l.length<1000000:=by
  have h1:=congrArg (·[k]?) hR.p
  have h2:(LV[k]'zo).2.p=((m.verts.l[k]).p:VP):=by simpa[List.getElem?_map,hg,List.getElem?_eq_getElem hk1]using h1
  have h3:=congrArg (λx:VP=>x.defers.length) h2;have h4:=(hb.vt _ (List.getElem_mem hk1)).2.2;simp only[VtM.p]at h3;omega
 generalize LV[k]'zo=bx at hg hdl;obtain⟨b,x⟩:=bx;have hV:=Zhp (nil:=m.verts.isNil) (o:=5305) (g:=gv) (m:=8) hn0;have hO:∀ cs,Zpg m.verts.isNil gv m.verts.l.length cs=.cells .new gv 0 cs:=λcs=>Zip hn0;have hfl:=Zya Zkl LV;have hpt:=Zy2 Zkl (j:=6) (v:=Zb (if b then .new else .old) 1 V.str x.defers) zd hg rfl;have hst:(flat (LV.map Zkn)).set (k*8+6) (Zb .new 1 V.str x.defers.cl)=flat ((LV.set k (true,{ x with defers:=x.defers.cl })).map Zkn):=Z7g Zkl zd hg rfl;rw[hlv]at hfl;have hle:k*8+6+1<=m.verts.l.length*8:=zo;have hle2:k*8+6<m.verts.l.length*8:=zo;have w1:IntKind.i64.wrap ((k:Int)+1)=(k:Int)+1:=w64 zo zo;refine Z1f hlt ?_;refine Z1f hlt ?_;refine Zw ⟨λj=>if j=9 then Zb .new 1 V.str x.defers.cl else .top,λ_=>.pure⟩ zk hG zk zk ?_;refine Zsf (zi hV (zi hO (zi hpt (zi hst (zi hfl (zi hle (zi hle2 (zi hk1 (zi @Int.natCast_nonneg @Int.ofNat_lt))))))))) ?_;refine⟨⟨by kernel_rfl,?_⟩,?_⟩
 .simp -implicitDefEqProofs only[go_sem,seval,Zgb,List.map_cons,List.map_nil]
  exact(Z5h G _ x.defers hdl).mono λv _ e=>by rw[e];simp -implicitDefEqProofs only[go_sem,seval,Zgb];try rfl
 refine Zf w1 ?_;exact hL3 _ ⟨hk1,LV.set k (true,{ x with defers:=x.defers.cl }),⟨(Zke _ hg (by simp only[VtM.p,Zxq])).trans hR.p⟩,Za (zpf hV) (zpf (zi hV hO))⟩;have hke:k=m.verts.l.length:=zo;have hlt:decide ((k:Int)<(m.verts.l.length:Int))=false:=zF;rw[hke]at hlt⊢;refine Zf hlt ?_
 try clear hL3 L3 hlt hke hk1 hk
 have hRv:=hR
 try clear hR
 refine Z9 m.ways.l.length (λk (LW:List (Bool×TrM))=>st [(1,.ptr 1 g1 0),(2,.ptr 2 g2 0),(46,.int .i64 m.ways.l.length),(47,.int .i64 k)] [(1,.cells .new g1 0 [.str m.name,Zb .new 2 Z3 m.vars.cl,Zb .new 1 V.str m.events.cl,objV m.regions.isNil 5205 gr 2 m.regions.l.length,objV m.verts.isNil 5305 gv 8 m.verts.l.length,objV m.ways.isNil 5405 gw 8 m.ways.l.length]),(2,.cells .new g2 0 [.str [],.nils,.nils,.nils,.nils,.nils]),(5205,Zpg m.regions.isNil gr m.regions.l.length (flat (m.regions.l.map Z3))),(5305,Zpg m.verts.isNil gv m.verts.l.length (flat (LV.map Zkn))),(5405,Zpg m.ways.isNil gw m.ways.l.length (flat (LW.map Zzp)))])
  (λ_ LW=>CpW m LW) 0 (m.ways.l.map λx=>(false,x)) (Nat.zero_le _) ⟨by rw[List.map_map]<;>rfl⟩ (Za zp (by refine Zs ?_;rw[List.map_map]<;>rfl)) ?_
 intro k LW hk hR L3 hL3
 by_cases hk1:k<m.ways.l.length
 have hlv:=hR.len;have hlt:decide ((k:Int)<(m.ways.l.length:Int))=true:=zT;have hn0:m.ways.l.length≠0:=zo;have hg:=List.getElem?_eq_getElem (l:=LW) (i:=k) zo
 have hdl:(LW[k]'zo).2.triggers.l.length<1000000:=by
  have h1:=congrArg (·[k]?) hR.p
  have h2:(LW[k]'zo).2.p=((m.ways.l[k]).p:WP):=by simpa[List.getElem?_map,hg,List.getElem?_eq_getElem hk1]using h1
  have h3:=congrArg (λx:WP=>x.triggers.length) h2;have h4:=(hb.wy _ (List.getElem_mem hk1)).2;simp only[TrM.p]at h3;omega
 generalize LW[k]'zo=bx at hg hdl;obtain⟨b,x⟩:=bx;have hV:=Zhp (nil:=m.ways.isNil) (o:=5405) (g:=gw) (m:=8) hn0;have hO:∀ cs,Zpg m.ways.isNil gw m.ways.l.length cs=.cells .new gw 0 cs:=λcs=>Zip hn0;have hfl:=Zya Znl LW;have hpt:=Zy2 Znl (j:=3) (v:=Zb (if b then .new else .old) 1 V.str x.triggers) zd hg rfl;have hst:(flat (LW.map Zzp)).set (k*8+3) (Zb .new 1 V.str x.triggers.cl)=flat ((LW.set k (true,{ x with triggers:=x.triggers.cl })).map Zzp):=Z7g Znl zd hg rfl;rw[hlv]at hfl;have hle:k*8+3+1<=m.ways.l.length*8:=zo;have hle2:k*8+3<m.ways.l.length*8:=zo;have w1:IntKind.i64.wrap ((k:Int)+1)=(k:Int)+1:=w64 zo zo;refine Z1f hlt ?_;refine Z1f hlt ?_;refine Zw ⟨λj=>if j=9 then Zb .new 1 V.str x.triggers.cl else .top,λ_=>.pure⟩ zk hG zk zk ?_;refine Zsf (zi hV (zi hO (zi hpt (zi hst (zi hfl (zi hle (zi hle2 (zi hk1 (zi @Int.natCast_nonneg @Int.ofNat_lt))))))))) ?_;refine⟨⟨by kernel_rfl,?_⟩,?_⟩
 .simp -implicitDefEqProofs only[go_sem,seval,Zgb,List.map_cons,List.map_nil]
  exact(Z5h G _ x.triggers hdl).mono λv _ e=>by rw[e];simp -implicitDefEqProofs only[go_sem,seval,Zgb];try rfl
 refine Zf w1 ?_;exact hL3 _ ⟨hk1,LW.set k (true,{ x with triggers:=x.triggers.cl }),⟨(Zke _ hg (by simp only[TrM.p,Zxq])).trans hR.p⟩,Za (zpf hV) (zpf (zi hV hO))⟩;have hke:k=m.ways.l.length:=zo;have hlt:decide ((k:Int)<(m.ways.l.length:Int))=false:=zF;rw[hke]at hlt⊢;refine Zf hlt ?_
 try clear hL3 L3 hlt hke hk1 hk
 exact⟨gr,gv,gw,LV,LW,hRv,hR,rfl,zp,zp,zp⟩
end Go.Hs
end

section
namespace Go.Hs
open Go.Proofs
set_option maxRecDepth 10000
set_option maxHeartbeats 4000000
def VtM.a(x:VtM):VP:={ x.p with name:=[] }
def TrM.a(x:TrM):WP:={ x.p with name:=[] }
theorem Zy7{m n:MdM}(h1:n.name=m.name)(h2:n.vars.l=m.vars.l)(h3:n.events.l=m.events.l)(h4:n.regions.l.map (·.2)=m.regions.l.map (·.2))(h5:n.verts.l.map VtM.a=m.verts.l.map VtM.a)(h6:n.ways.l.map TrM.a=m.ways.l.map TrM.a):n.p.anon=m.p.anon:=by
 unfold PM.anon MdM.p;simp only[h1,h2,h3,List.map_map]
 congr 1
 have:=congrArg (List.map λr:Int=>(([]:List UInt8),r)) h4;simpa[List.map_map,Function.comp_def]using this
structure NmV(m:MdM)(L:List (Bool×VtM)):Prop where
 p:L.map (λp=>p.2.a)=m.verts.l.map VtM.a
 nm:∀ p∈L,txR p.2.name
structure NmW(m:MdM)(L:List (Bool×TrM)):Prop where
 p:L.map (λp=>p.2.a)=m.ways.l.map TrM.a
 nm:∀ p∈L,txR p.2.name
structure NmR(m:MdM)(L:List (List UInt8×Int)):Prop where
 p:L.map (·.2)=m.regions.l.map (·.2)
 nm:∀ p∈L,txR p.1
theorem Z0l{α β γ : Type}{f : α -> γ}{g : β -> γ}{l:List α}{r:List β}(h:l.map f=r.map g){a : α}(ha:a∈l):∃ b∈r,f a=g b:=by
 have:=List.mem_map_of_mem (f:=f) ha;rw[h]at this;obtain⟨b,hb,e⟩:=List.mem_map.1 this;exact⟨b,hb,e.symm⟩
theorem CpV.nm{m:MdM}{L:List (Bool×VtM)}(h:CpV m L)(hr:MdR m):NmV m L:=by
 refine⟨?_,λp hp=>?_⟩;have:=congrArg (List.map λx:VP=>{ x with name:=[] }) h.p;rw[List.map_map,List.map_map]at this;exact this;obtain⟨x,hx,e⟩:=Z0l h.p hp;have e:p.2.name=x.name:=congrArg VP.name e;rw[e];exact(hr.vt.2 x hx).1
theorem CpW.nm{m:MdM}{L:List (Bool×TrM)}(h:CpW m L)(hr:MdR m):NmW m L:=by
 refine⟨?_,λp hp=>?_⟩;have:=congrArg (List.map λx:WP=>{ x with name:=[] }) h.p;rw[List.map_map,List.map_map]at this;exact this;obtain⟨x,hx,e⟩:=Z0l h.p hp;have e:p.2.name=x.name:=congrArg WP.name e;rw[e];exact(hr.wy.2 x hx).1
theorem NmV.len{m:MdM}{L:List (Bool×VtM)}(h:NmV m L):L.length=m.verts.l.length:=by
 have:=congrArg List.length h.p;rwa [List.length_map,List.length_map]at this
theorem NmW.len{m:MdM}{L:List (Bool×TrM)}(h:NmW m L):L.length=m.ways.l.length:=by
 have:=congrArg List.length h.p;rwa [List.length_map,List.length_map]at this
theorem NmR.len{m:MdM}{L:List (List UInt8×Int)}(h:NmR m L):L.length=m.regions.l.length:=by
 have:=congrArg List.length h.p;rwa [List.length_map,List.length_map]at this
theorem Zoca{m n:PM}(h:n.anon=m.anon){bd:List (List UInt8)->List (List UInt8)->List UInt8->Bool}{gd:List (List UInt8)->List UInt8->Int}(h1:(m.checkW bd gd).2=0)(h2:(n.checkW bd gd).2=0):(n.checkW bd gd).1=(m.checkW bd gd).1:=by
 have key:∀ x:PM,(x.checkW bd gd).2=0->(x.checkW bd gd).1=x.anon.badL bd gd 15:=λx hx=>by
  rw[PM.anon_badL];unfold PM.checkW at hx⊢
  by_cases q:(x.rightP).2.2≠0
  rw[if_pos q]at hx;exact absurd hx q;rw[if_neg q]
 rw[key n h2,key m h1,h]
theorem Zcja{α β : Type}(c:Col)(n:Nat)(f : β -> V)(nil:Bool)(L:List (α × β)):Zb c n (λp : α × β => f p.2) (Zf8 nil L)=Zb c n f (Zf8 nil (L.map (·.2))):=by
 unfold Zf8;rw[List.length_map]
 split
 rfl
 show V.slice _ _ _ _=V.slice _ _ _ _
 rw[List.map_map]<;>rfl
def nmM(m:MdM)(LR:List (List UInt8×Int))(LV:List (Bool×VtM))(LW:List (Bool×TrM)):MdM:=
 ⟨m.name,m.vars.cl,m.events.cl,Zf8 m.regions.isNil LR,Zf8 m.verts.isNil (LV.map (·.2)),Zf8 m.ways.isNil (LW.map (·.2))⟩
theorem nm_r{m:MdM}{LR:List (List UInt8×Int)}{LV:List (Bool×VtM)}{LW:List (Bool×TrM)}(hR:NmR m LR)(hV:NmV m LV)(hW:NmW m LW)(hr:MdR m):MdR (nmM m LR LV LW):=by
 refine⟨hr.nm,?_,?_,?_,?_,?_⟩<;>simp only[nmM,Zxq,Zhga,List.length_map]
 exact hr.var;exact hr.ev;exact⟨by rw[hR.len];exact hr.rg.1,hR.nm⟩;refine⟨by rw[hV.len];exact hr.vt.1,λy hy=>?_⟩;obtain⟨p,hp,rfl⟩:=List.mem_map.1 hy;obtain⟨x,hx,e⟩:=Z0l hV.p hp;have q:=hr.vt.2 x hx;have e1:p.2.entry=x.entry:=congrArg VP.entry e;have e2:p.2.exit=x.exit:=congrArg VP.exit e;have e3:p.2.sub=x.sub:=congrArg VP.sub e;have e4:p.2.defers.l=x.defers.l:=congrArg VP.defers e;rw[e1,e2,e3,e4];exact⟨hV.nm p hp,q.2⟩;refine⟨by rw[hW.len];exact hr.wy.1,λy hy=>?_⟩;obtain⟨p,hp,rfl⟩:=List.mem_map.1 hy;obtain⟨x,hx,e⟩:=Z0l hW.p hp;have q:=hr.wy.2 x hx;have e1:p.2.guard=x.guard:=congrArg WP.guard e;have e2:p.2.effect=x.effect:=congrArg WP.effect e;have e4:p.2.triggers.l=x.triggers.l:=congrArg WP.triggers e;rw[e1,e2,e4];exact⟨hW.nm p hp,q.2⟩
theorem nm_f{m:MdM}{LR:List (List UInt8×Int)}{LV:List (Bool×VtM)}{LW:List (Bool×TrM)}(hR:NmR m LR)(hV:NmV m LV)(hW:NmW m LW)(hf:FewM m):FewM (nmM m LR LV LW):=by
 refine⟨?_,?_,?_,?_,?_,?_,?_⟩<;>simp only[nmM,Zxq,Zhga,List.length_map]
 exact hf.nv;exact hf.ne;rw[hR.len];exact hf.nr;rw[hV.len];exact hf.nx;rw[hW.len];exact hf.nw;intro y hy;obtain⟨p,hp,rfl⟩:=List.mem_map.1 hy;obtain⟨x,hx,e⟩:=Z0l hV.p hp;have e1:p.2.entry=x.entry:=congrArg VP.entry e;have e2:p.2.exit=x.exit:=congrArg VP.exit e;have e4:p.2.defers.l=x.defers.l:=congrArg VP.defers e;rw[e1,e2,e4];exact hf.vt x hx;intro y hy;obtain⟨p,hp,rfl⟩:=List.mem_map.1 hy;obtain⟨x,hx,e⟩:=Z0l hW.p hp;have e1:p.2.guard=x.guard:=congrArg WP.guard e;have e2:p.2.effect=x.effect:=congrArg WP.effect e;have e4:p.2.triggers.l=x.triggers.l:=congrArg WP.triggers e;rw[e1,e2,e4];exact hf.wy x hx
theorem nm_anon{m:MdM}{LR:List (List UInt8×Int)}{LV:List (Bool×VtM)}{LW:List (Bool×TrM)}(hR:NmR m LR)(hV:NmV m LV)(hW:NmW m LW):(nmM m LR LV LW).p.anon=m.p.anon:=by
 refine Zy7 rfl ?_ ?_ ?_ ?_ ?_<;>simp only[nmM,Zxq,Zhga,List.map_map]
 exact hR.p;exact hV.p;exact hW.p
theorem Zvna(G:Nat->V)(hE:GExp G)(m:MdM)(hr:MdR m)(a b:List UInt8):
  Spec Tryz.prog G 5 [Zx .old .old m,.str a,.str b] Zk (λv _=>v=.bool true):=by
 have hG:=hE.ok;have hW:=Zge G hE;refine Zo 0 129 [.tmp 6] Tryz.func5 λX=>?_;simp only[Zd];refine Z ?_;intro g3;refine AW.weak (Zt (λo=>o==3) (l:=[(1,.str a),(2,.str b),(3,.view .new (Zx .old .old m))]) (m:=[]) ?_ trivial) ?_;refine Zs ?_;exact⟨Fz.same _,Fz.same _,Fz.ptr (v:=Zx .old .old m) (c:=.new) (fz:=0) zp zp⟩;refine Zf Zd ?_;refine Ze hG ?_ (s:=Zqk G hG .old .old m hr);rintro _ ⟨b0,rfl,hb⟩
 cases b0 with
 |false=>
  refine Zg Zd ?_;refine Zc hG ?_ (s:=hW);exact Zr
 |true=>
 have hf:=hb rfl;have hB:=hf.b hr;have n3:=hf.nr;have n4:=hf.nx;have n5:=hf.nw;have w1:IntKind.i64.wrap ((m.ways.l.length:Int)+(m.verts.l.length:Int))=(m.ways.l.length:Int)+(m.verts.l.length:Int):=w64 zo zo;have w2:IntKind.i64.wrap ((m.ways.l.length:Int)+(m.verts.l.length:Int)+(m.regions.l.length:Int))=(m.ways.l.length:Int)+(m.verts.l.length:Int)+(m.regions.l.length:Int):=w64 zo zo
 by_cases hs:m.ways.l.length+m.verts.l.length+m.regions.l.length>120
 have q:decide ((m.ways.l.length:Int)+(m.verts.l.length:Int)+(m.regions.l.length:Int)>120)=true:=zT;refine Zg (zi w1 (zi w2 (zi q Zd))) ?_;refine Zc hG ?_ (s:=hW);exact Zr;have q1:decide ((m.ways.l.length:Int)+(m.verts.l.length:Int)+(m.regions.l.length:Int)>120)=false:=zF
 by_cases ha1:a.length>100
 have q:decide ((a.length:Int)>100)=true:=zT;refine Zg (zi w1 (zi w2 (zi q1 (zi q Zd)))) ?_;refine Zc hG ?_ (s:=hW);exact Zr;have q2:decide ((a.length:Int)>100)=false:=zF
 by_cases hb1:b.length>100
 have q:decide ((b.length:Int)>100)=true:=zT;refine Zg (zi w1 (zi w2 (zi q1 (zi q2 (zi q Zd))))) ?_;refine Zc hG ?_ (s:=hW);exact Zr;have q3:decide ((b.length:Int)>100)=false:=zF
 have ha:txR a:=by unfold txR;omega
 have hbn:txR b:=by unfold txR;omega
 refine Zg (zi w1 (zi w2 (zi q1 (zi q2 (zi q3 Zd))))) ?_;refine CallA.inl [(5205,.dead),(5305,.dead),(5405,.dead)] zk (by intro p hp;simp only[List.mem_cons,List.not_mem_nil,or_false]at hp;rcases hp with rfl|rfl|rfl<;>rfl) ?_;refine(Zuba G hG .old m hB).mono ?_;rintro _ H' ⟨gr,gv,gw,LV,LW,hLV,hLW,rfl,p2,p5,p7⟩;simp only[List.map_cons,List.map_nil,p2,p5,p7];refine Zu ?_;intro g7;have hV1:=hLV.nm hr;have hW1:=hLW.nm hr;have hR1:NmR m m.regions.l:=⟨rfl,hr.rg.2⟩
 try clear hLV hLW p2 p5 p7
 refine Z ?_;refine Z9 m.verts.l.length (λk (LV:List (Bool×VtM))=>st [(1,.str a),(2,.str b),(3,.view .new (Zx .old .old m)),(7,.ptr 7 g7 0),(8,.int .i64 k)] [(7,.cells .new g7 0 [.str m.name,Zb .new 2 Z3 m.vars.cl,Zb .new 1 V.str m.events.cl,objV m.regions.isNil 5205 gr 2 m.regions.l.length,objV m.verts.isNil 5305 gv 8 m.verts.l.length,objV m.ways.isNil 5405 gw 8 m.ways.l.length]),(5205,Zpg m.regions.isNil gr m.regions.l.length (flat (m.regions.l.map Z3))),(5305,Zpg m.verts.isNil gv m.verts.l.length (flat (LV.map Zkn))),(5405,Zpg m.ways.isNil gw m.ways.l.length (flat (LW.map Zzp)))]) (λ_ LV=>NmV m LV) 0 LV (Nat.zero_le _) hV1 (Za (zpf Zd) zp) ?_
 try clear hV1 LV
 intro k LV hk hR L3 hL3
 by_cases hk1:k<m.verts.l.length
 have hlv:=hR.len;have hlt:decide ((k:Int)<(m.verts.l.length:Int))=true:=zT;have hn0:m.verts.l.length≠0:=zo;have hg:=List.getElem?_eq_getElem (l:=LV) (i:=k) zo;generalize LV[k]'zo=bx at hg;obtain⟨bo,x⟩:=bx;have hV:=Zhp (nil:=m.verts.isNil) (o:=5305) (g:=gv) (m:=8) hn0;have hO:∀ cs,Zpg m.verts.isNil gv m.verts.l.length cs=.cells .new gv 0 cs:=λcs=>Zip hn0;have hfl:=Zya Zkl LV;rw[hlv]at hfl;have hle:k*8+1<=m.verts.l.length*8:=zo;have hle2:k*8<m.verts.l.length*8:=zo;have w1:IntKind.i64.wrap ((k:Int)+1)=(k:Int)+1:=w64 zo zo;have hst:∀ nm:List UInt8,(flat (LV.map Zkn)).set (k*8) (.str nm)=flat ((LV.set k (bo,{ x with name:=nm })).map Zkn):=λnm=>Z7g (j:=0) Zkl zd hg rfl;have hsp:∀ nm:List UInt8,txR nm->NmV m (LV.set k (bo,{ x with name:=nm })):=λnm hn=>⟨(Zke _ hg (y:=(bo,{ x with name:=nm })) rfl).trans hR.p,Zi3 hR.nm hn⟩;refine Z1f hlt ?_
 by_cases hm:k%2=0
 have rm:Int.tmod (k:Int) 2=0:=by rw[Int.tmod_eq_emod_of_nonneg zo];omega
 refine ZTf (zi rm (zi hV (zi hO (zi hst (zi hfl (zi hle (zi hle2 (zi hk1 (zi (Nat.zero_le (k*8)) (zi @Int.natCast_nonneg @Int.ofNat_lt)))))))))) hG ?_;intro g58;refine Zf w1 ?_;exact hL3 _ ⟨hk1,_,hsp a ha,Za (zpf hV) (zpf (zi hV hO))⟩
 have rm:Int.tmod (k:Int) 2=1:=by rw[Int.tmod_eq_emod_of_nonneg zo];omega
 refine ZTf (zi rm (zi hV (zi hO (zi hst (zi hfl (zi hle (zi hle2 (zi hk1 (zi (Nat.zero_le (k*8)) (zi @Int.natCast_nonneg @Int.ofNat_lt)))))))))) hG ?_;intro g58;refine Zf w1 ?_;exact hL3 _ ⟨hk1,_,hsp b hbn,Za (zpf hV) (zpf (zi hV hO))⟩;have hV1:=hR
 try clear hR
 have hke:k=m.verts.l.length:=zo;have hlt:decide ((k:Int)<(m.verts.l.length:Int))=false:=zF;rw[hke]at hlt⊢;refine Zf (zi hlt Zd) ?_
 try clear hL3 L3 hlt hke hk1 hk
 refine Z9 m.regions.l.length (λk (LR:List (List UInt8×Int))=>st [(1,.str a),(2,.str b),(3,.view .new (Zx .old .old m)),(7,.ptr 7 g7 0),(9,.int .i64 k)] [(7,.cells .new g7 0 [.str m.name,Zb .new 2 Z3 m.vars.cl,Zb .new 1 V.str m.events.cl,objV m.regions.isNil 5205 gr 2 m.regions.l.length,objV m.verts.isNil 5305 gv 8 m.verts.l.length,objV m.ways.isNil 5405 gw 8 m.ways.l.length]),(5205,Zpg m.regions.isNil gr m.regions.l.length (flat (LR.map Z3))),(5305,Zpg m.verts.isNil gv m.verts.l.length (flat (LV.map Zkn))),(5405,Zpg m.ways.isNil gw m.ways.l.length (flat (LW.map Zzp)))]) (λ_ LR=>NmR m LR) 0 m.regions.l (Nat.zero_le _) hR1 (Za zp zp) ?_
 try clear hR1
 intro k LR hk hR L3 hL3
 by_cases hk1:k<m.regions.l.length
 have hlv:=hR.len;have hlt:decide ((k:Int)<(m.regions.l.length:Int))=true:=zT;have hn0:m.regions.l.length≠0:=zo;have hg:=List.getElem?_eq_getElem (l:=LR) (i:=k) zo;generalize LR[k]'zo=bx at hg;obtain⟨bo,x⟩:=bx;have hV:=Zhp (nil:=m.regions.isNil) (o:=5205) (g:=gr) (m:=2) hn0;have hO:∀ cs,Zpg m.regions.isNil gr m.regions.l.length cs=.cells .new gr 0 cs:=λcs=>Zip hn0;have hfl:=Zya Zqb LR;rw[hlv]at hfl;have hle:k*2+1<=m.regions.l.length*2:=zo;have hle2:k*2<m.regions.l.length*2:=zo;have w1:IntKind.i64.wrap ((k:Int)+1)=(k:Int)+1:=w64 zo zo;have hst:(flat (LR.map Z3)).set (k*2) (.str b)=flat ((LR.set k (b,x)).map Z3):=Z7g (j:=0) Zqb zd hg rfl;refine Zf (zi hlt (zi hV (zi hO (zi hst (zi hfl (zi hle (zi hle2 (zi hk1 (zi w1 (zi (Nat.zero_le (k*2)) (zi @Int.natCast_nonneg @Int.ofNat_lt))))))))))) ?_;exact hL3 _ ⟨hk1,LR.set k (b,x),⟨(Zke _ hg (y:=(b,x)) rfl).trans hR.p,Zi3 hR.nm hbn⟩,Za (zpf hV) (zpf (zi hV hO))⟩;have hR1:=hR
 try clear hR
 have hke:k=m.regions.l.length:=zo;have hlt:decide ((k:Int)<(m.regions.l.length:Int))=false:=zF;rw[hke]at hlt⊢;refine Zf (zi hlt Zd) ?_
 try clear hL3 L3 hlt hke hk1 hk
 refine Z9 m.ways.l.length (λk (LW:List (Bool×TrM))=>st [(1,.str a),(2,.str b),(3,.view .new (Zx .old .old m)),(7,.ptr 7 g7 0),(10,.int .i64 k)] [(7,.cells .new g7 0 [.str m.name,Zb .new 2 Z3 m.vars.cl,Zb .new 1 V.str m.events.cl,objV m.regions.isNil 5205 gr 2 m.regions.l.length,objV m.verts.isNil 5305 gv 8 m.verts.l.length,objV m.ways.isNil 5405 gw 8 m.ways.l.length]),(5205,Zpg m.regions.isNil gr m.regions.l.length (flat (LR.map Z3))),(5305,Zpg m.verts.isNil gv m.verts.l.length (flat (LV.map Zkn))),(5405,Zpg m.ways.isNil gw m.ways.l.length (flat (LW.map Zzp)))]) (λ_ LW=>NmW m LW) 0 LW (Nat.zero_le _) hW1 (Za zp zp) ?_
 try clear hW1 LW
 intro k LW hk hR L3 hL3
 by_cases hk1:k<m.ways.l.length
 have hlv:=hR.len;have hlt:decide ((k:Int)<(m.ways.l.length:Int))=true:=zT;have hn0:m.ways.l.length≠0:=zo;have hg:=List.getElem?_eq_getElem (l:=LW) (i:=k) zo;generalize LW[k]'zo=bx at hg;obtain⟨bo,x⟩:=bx;have hV:=Zhp (nil:=m.ways.isNil) (o:=5405) (g:=gw) (m:=8) hn0;have hO:∀ cs,Zpg m.ways.isNil gw m.ways.l.length cs=.cells .new gw 0 cs:=λcs=>Zip hn0;have hfl:=Zya Znl LW;rw[hlv]at hfl;have hle:k*8+1<=m.ways.l.length*8:=zo;have hle2:k*8<m.ways.l.length*8:=zo;have w1:IntKind.i64.wrap ((k:Int)+1)=(k:Int)+1:=w64 zo zo;have hst:(flat (LW.map Zzp)).set (k*8) (.str a)=flat ((LW.set k (bo,{ x with name:=a })).map Zzp):=Z7g (j:=0) Znl zd hg rfl;refine Zf (zi hlt (zi hV (zi hO (zi hst (zi hfl (zi hle (zi hle2 (zi hk1 (zi w1 (zi (Nat.zero_le (k*8)) (zi @Int.natCast_nonneg @Int.ofNat_lt))))))))))) ?_;exact hL3 _ ⟨hk1,LW.set k (bo,{ x with name:=a }),⟨(Zke _ hg (y:=(bo,{ x with name:=a })) rfl).trans hR.p,Zi3 hR.nm ha⟩,Za (zpf hV) (zpf (zi hV hO))⟩;have hW1:=hR
 try clear hR
 have hke:k=m.ways.l.length:=zo;have hlt:decide ((k:Int)<(m.ways.l.length:Int))=false:=zF;rw[hke]at hlt⊢;refine Zf (zi hlt Zd) ?_
 try clear hL3 L3 hlt hke hk1 hk
 have hr2:=nm_r hR1 hV1 hW1 hr;have hf2:=nm_f hR1 hV1 hW1 hf;have han:=nm_anon hR1 hV1 hW1;have hB2:=hf2.b hr2;have hck:=λc d=>Z7c G hE c d m hB hf.t;have hcn:=λc d=>Z7c G hE c d (nmM m LR LV LW) hB2 hf2.t;have hsm:=Zoca han (bd:=Zba) (gd:=Z2);have hWl:(m.p.checkW Zba Z2).1.length<=100000:=m.p.checkW_len (by rw[m.nv];omega) (by rw[m.nw];omega) (by show m.regions.l.length<=_;omega)
 have rdR:∀ H:Heap,H 5205=Zpg m.regions.isNil gr m.regions.l.length (flat (LR.map Z3))->Rd H (objV m.regions.isNil 5205 gr 2 m.regions.l.length) (Zb .old 2 Z3 (Zf8 m.regions.isNil LR)):=λH h=>by
  rw[<- hR1.len]at h⊢;exact Zx7 h Zqb Zin (λ_=>rfl)
 have rdV:∀ H:Heap,H 5305=Zpg m.verts.isNil gv m.verts.l.length (flat (LV.map Zkn))->Rd H (objV m.verts.isNil 5305 gv 8 m.verts.l.length) (Zb .old 8 (Zha .old) (Zf8 m.verts.isNil (LV.map (·.2)))):=λH h=>by
  rw[<- hV1.len]at h⊢;rw[<- Zcja];exact Zx7 h Zkl (λx=>Zpw _ _) (λx=>by obtain⟨b,x⟩:=x;cases b<;>exact Zde _ _ _)
 have rdW:∀ H:Heap,H 5405=Zpg m.ways.isNil gw m.ways.l.length (flat (LW.map Zzp))->Rd H (objV m.ways.isNil 5405 gw 8 m.ways.l.length) (Zb .old 8 (Zqa .old) (Zf8 m.ways.isNil (LW.map (·.2)))):=λH h=>by
  rw[<- hW1.len]at h⊢;rw[<- Zcja];exact Zx7 h Znl (λx=>Zqw _ _) (λx=>by obtain⟨b,x⟩:=x;cases b<;>exact Zee _ _ _)
 generalize m.p.checkW Zba Z2=p1 at hck hsm hWl;obtain⟨W1,e1⟩:=p1;refine Zc hG ?_ (s:=hck _ _);refine Zf Zd ?_;refine Z5b hG [Zx .old .old (nmM m LR LV LW)] zk ⟨Rd.agg ⟨Z0a (.str _) rfl,Z0a (Z3c Zin _) (Zef _ _ _),Z0a (Z2t _ _) (Zgb _ _ _ _),rdR _ zp,rdV _ zp,rdW _ zp,trivial⟩,trivial⟩ ((hcn .old .old).mono ?_);rintro _ _ rfl;refine⟨Zri _ _,?_⟩;generalize(nmM m LR LV LW).p.checkW Zba Z2=p2 at hsm;obtain⟨W2,e2⟩:=p2;simp only at hsm hWl
 by_cases h1:e1=0
 rotate_left;have u1:(e1 != 0)=true:=zu h1;refine Zg u1 ?_;refine Zc hG ?_ (s:=hW);exact Zr
 by_cases h2:e2=0
 rotate_left;have u1:(e1 != 0)=false:=zu h1;have u2:(e2 != 0)=true:=zu h2;refine Zg (zi u1 u2) ?_;refine Zc hG ?_ (s:=hW);exact Zr;have hee:=hsm h1 h2;subst hee;subst h1;subst h2;have u3:((W2.length:Int) != (W2.length:Int))=false:=zS;refine Zg (zi u3 (@Zm (Nat×Int) W2)) ?_;refine Z9 W2.length (λk (_:Unit)=>st [(11,Zb .new 2 Zub (Zl W2)),(13,Zb .new 2 Zub (Zl W2)),(15,.int .i64 k)] []) (λ_ _=>True) 0 () (Nat.zero_le _) trivial (Za zp zp) ?_;intro k _ hk _ L3 hL3;have hgl := @Zm (Nat×Int) W2
 by_cases hk1:k<W2.length
 have hlt:decide ((k:Int)<(W2.length:Int))=true:=zT;have hg:=List.getElem?_eq_getElem hk1;generalize W2[k]=p at hg;have w1:IntKind.i64.wrap ((k:Int)+1)=(k:Int)+1:=w64 zo zo;have u4:((p.1:Int)==(p.1:Int))=true:=zS;have u5:(p.2==p.2)=true:=zS;refine Z1f (zi hgl hlt) ?_;refine ZTf (zi hgl (zi hg (zi u4 (zi u5 (zi Zah (zi hk1 (zi @Int.natCast_nonneg @Int.ofNat_lt))))))) hG ?_;refine Zf w1 ?_;exact hL3 _ ⟨hk1,(),trivial,Za zp zp⟩;have hke:k=W2.length:=zo;have hlt:decide ((k:Int)<(W2.length:Int))=false:=zF;rw[hke]at hlt⊢;refine Zf (zi hgl hlt) ?_;refine Zc hG ?_ (s:=hW);exact Zr
end Go.Hs
end

section
namespace Go.Hs
open Go.Proofs
set_option maxRecDepth 10000
set_option maxHeartbeats 4000000
def OddM.md(x:OddM):MdM:=⟨x.nm,.mk false x.vs,.mk false x.es,if x.rn=true then .nil else .mk false x.rs,.mk false x.xs,.mk false x.ws⟩
theorem Zx9{s:List UInt8}(h:s.length<=5000):txR s:=Nat.le_trans h zd
theorem OdV.r{y:VtM}(q:OdV y):txR y.name/\txR y.entry/\txR y.exit/\txR y.sub/\y.defers.l.length<=140737488351232/\∀ s∈y.defers.l,txR s:=⟨Zx9 q.nm,Zx9 q.t1,Zx9 q.t2,Zx9 q.t3,Nat.le_trans q.dl zd,λs hs=>Zx9 (q.ds s hs)⟩
theorem OdW.r{y:TrM}(q:OdW y):txR y.name/\txR y.guard/\txR y.effect/\y.triggers.l.length<=140737488351232/\∀ s∈y.triggers.l,txR s:=⟨Zx9 q.nm,Zx9 q.t1,Zx9 q.t2,Nat.le_trans q.dl zd,λs hs=>Zx9 (q.ds s hs)⟩
theorem OddM.r{x:OddM}(h:OddOk x):MdR x.md:=by
 refine⟨Zx9 h.nm,⟨?_,λp hp=>Zx9 (h.v p hp)⟩,⟨?_,λp hp=>Zx9 (h.e p hp)⟩,?_,⟨?_,λy hy=>(h.x y hy).r⟩,⟨?_,λy hy=>(h.w y hy).r⟩⟩
 show x.vs.length<=_;rw[h.lv];decide
 show x.es.length<=_;rw[h.le];decide
 unfold OddM.md
 split
 exact⟨Nat.zero_le _,λp hp=>by cases hp⟩;refine⟨?_,λp hp=>Zx9 (h.r p hp)⟩
 show x.rs.length<=_;rw[h.lr];decide
 show x.xs.length<=_;rw[h.lx];decide
 show x.ws.length<=_;rw[h.lw];decide
theorem Z5p(G:Nat->V){H:Heap}{K:V->Heap->Prop}(h:∀ g1 g2 g3 g4 g5,K (.agg [.str doorM.name,.msl 7103 g1 0 2 2,.msl 7104 g2 0 3 1,.msl 7108 g3 0 3 2,.msl 7121 g4 0 11 8,.msl 7134 g5 0 8 8])
   (Zab H [(7103,.cells .new g1 0 (flat (doorM.vars.l.map Z3))),(7104,.cells .new g2 0 (flat (doorM.events.l.map V.str))),(7108,.cells .new g3 0 (flat (doorM.regions.l.map Z3))),(7121,.cells .new g4 0 (flat (doorM.verts.l.map (Zha .new)))),(7134,.cells .new g5 0 (flat (doorM.ways.l.map (Zqa .new))))]))
  (hd:∀ p∈[(7103,AObj.dead),(7104,.dead),(7108,.dead),(7121,.dead),(7134,.dead)],H p.1=p.2:=by intro p hp;simp only[List.mem_cons,List.not_mem_nil,or_false]at hp;rcases hp with rfl|rfl|rfl|rfl|rfl<;>rfl):
  CallA Tryz.prog G 19 [] H K:=by
 refine CallA.inl _ zk hd ((Z9r G).mono ?_);rintro _ H' ⟨g1,g2,g3,g4,g5,rfl,q1,q2,q3,q4,q5⟩;simp only[List.map_cons,List.map_nil,q1,q2,q3,q4,q5];exact h g1 g2 g3 g4 g5
def doorO:OddM:=⟨doorM.name,doorM.vars.l,doorM.events.l,false,doorM.regions.l,doorM.verts.l,doorM.ways.l⟩
theorem doorO_ok:OddOk doorO:=by
 have hx:∀ y∈doorO.xs,y.name.length<=5000/\y.entry.length<=5000/\y.exit.length<=5000/\y.sub.length<=5000/\y.defers.l.length<=5/\∀ s∈y.defers.l,s.length<=5000:=zd;have hw:∀ y∈doorO.ws,y.name.length<=5000/\y.guard.length<=5000/\y.effect.length<=5000/\y.triggers.l.length<=5/\∀ s∈y.triggers.l,s.length<=5000:=zd;exact⟨rfl,rfl,rfl,rfl,rfl,zd,zd,zd,zd,λy hy=>by obtain⟨h1,h2,h3,h4,h5,h6⟩:=hx y hy;exact⟨h1,h2,h3,h4,h5,h6⟩,λy hy=>by obtain⟨h1,h2,h3,h4,h5⟩:=hw y hy;exact⟨h1,h2,h3,h4,h5⟩⟩
theorem Z30{α : Type}{F:Nat->Bool}{H:Heap}{o g m n fz:Nat}{c:Col}{f : α -> V}{l:List α}(hn:l.length=n)(hF:F o=true)(hH:H o=.cells c g fz (flat (l.map f)))(hf:∀ x,(f x).cells.length=m):Fz F H (.msl o g 0 n m) (Zb c m f (.mk false l)):=by
 subst hn;exact Z4c hF hH hf
theorem odW{a b c d:Int}{g:List UInt8}(h:g.length<=5000):OdW ⟨[],a,b,.nil,c,g,[],d⟩:=⟨Nat.zero_le _,h,Nat.zero_le _,Nat.zero_le _,λ_ h=>by cases h⟩
def doorW(vs:List VtM)(ws:List TrM):MdM:=⟨doorM.name,doorM.vars,doorM.events,doorM.regions,.mk false vs,.mk false ws⟩
theorem Z8t{vs:List VtM}{ws:List TrM}(h1:vs.length=11)(h2:∀ y∈vs,OdV y)(h4:∀ y∈ws,OdW y)(h3:Nat.ble ws.length 90=true:=by rfl):MdR (doorW vs (doorM.ways.l++ws)):=by
 obtain⟨q1,q2,q3,q4,_,_⟩:=OddM.r doorO_ok;refine⟨q1,q2,q3,q4,⟨Nat.le_trans (Nat.le_of_eq h1) zd,λy hy=>(h2 y hy).r⟩,⟨?_,λy hy=>((List.mem_append.1 hy).elim (doorO_ok.w y) (h4 y)).r⟩⟩
 show(doorM.ways.l++ws).length<=_
 have:=Nat.le_of_ble_eq_true h3;rw[List.length_append,show doorM.ways.l.length=8 from rfl];omega
theorem Rd.rowN{α : Type}{H:Heap}{o g fz m n:Nat}{c:Col}{f f' : α -> V}{l:List α}(hn:l.length=n)(hH:H o=.cells c g fz (flat (l.map f)))(hf:∀ x,(f x).cells.length=m)
  (hIm:∀ x,∀ y∈(f x).cells,y.Im) (hf':∀ x,(f x).recol Col.ent=f' x):Rd H (.msl o g 0 n m) (Zb .old m f' (.mk false l)):=by
 subst hn;exact Rd.row hH hf hIm hf'
theorem Z4p{H:Heap}{o g1 g2 g3 g4 g5 n:Nat}{vs:List VtM}{ws:List TrM}(lv:vs.length=11)(lw:ws.length=n)(h1:H 7103=.cells .new g1 0 (flat (doorM.vars.l.map Z3)))(h2:H 7104=.cells .new g2 0 (flat (doorM.events.l.map V.str)))(h3:H 7108=.cells .new g3 0 (flat (doorM.regions.l.map Z3)))
  (h4:H 7121=.cells .new g4 0 (flat (vs.map (Zha .new)))) (h5:H o=.cells .new g5 0 (flat (ws.map (Zqa .new)))):RdL H [.agg [.str doorM.name,.msl 7103 g1 0 2 2,.msl 7104 g2 0 3 1,.msl 7108 g3 0 3 2,.msl 7121 g4 0 11 8,.msl o g5 0 n 8]] [Zx .old .old (doorW vs ws)]:=
 ⟨Rd.agg ⟨Z0a (.str _) rfl,Rd.row (l:=doorM.vars.l) h1 Zqb Zin (λ_=>rfl),Rd.row (l:=doorM.events.l) h2 (λ_=>rfl) Z88 (λ_=>rfl),Rd.row (l:=doorM.regions.l) h3 Zqb Zin (λ_=>rfl),Rd.rowN lv h4 (Zrc _) (Zpw _) (Zde _ _),Rd.rowN lw h5 (Zse _) (Zqw _) (Zee _ _),trivial⟩,trivial⟩
theorem Znha(G:Nat->V)(hG:GOk G)(i:Int):InSp Tryz.prog G 20 [.int .i64 i] Zk (λv _=>∃ m,MdR m/\v=Zx .new .new m):=by
 refine Zfb 7400 6 [.cell 2 28] Tryz.func20 rfl rfl rfl rfl λX=>?_;refine Z1 ?_;intro b2;refine Z1 ?_;refine Z5p G ?_;intro g1 g2 g3 g4 g5;refine Zu ?_;refine CallA.inl [(7103,.cells .new g1 0 (flat (doorO.vs.map Z3))),(7104,.cells .new g2 0 (flat (doorO.es.map V.str))),(7108,.cells .new g3 0 (flat (doorO.rs.map Z3))),(7121,.cells .new g4 0 (flat (doorO.xs.map (Zha .new)))),(7134,.cells .new g5 0 (flat (doorO.ws.map (Zqa .new))))] zk ?_ ?_;intro p hp;simp only[List.mem_cons,List.not_mem_nil,or_false]at hp
 rcases hp with rfl|rfl|rfl|rfl|rfl<;>rfl
 refine(Zhw G hG g1 g2 g3 g4 g5 doorO doorO_ok rfl i).mono ?_;rintro _ H' ⟨x,ok,rfl,q1,q2,q3,q4,q5⟩;simp only[List.map_cons,List.map_nil,q1,q2,q3,q4,q5];refine Zu ?_;refine AW.weak (Zt (λo=>o==7103||o==7104||o==7108||o==7121||o==7134) (l:=[(2,.ptr 7402 b2 0)]) (m:=[(7402,.cells .new b2 0 (Zx .new .new x.md).cells)]) ?_ ?_) ?_;refine Zs ?_;exact Fz.same _;simp only[Zv,Zz,and_true];refine FzO.of rfl rfl ⟨Fz.same _,Z30 ok.lv rfl rfl Zqb,Z30 (f:=V.str) ok.le rfl rfl (λ_=>rfl),?_,Z30 ok.lx rfl rfl (Zrc _),Z30 ok.lw rfl rfl (Zse _),trivial⟩;unfold OddM.md rnV
 split
 exact Fz.same _;exact Z30 ok.lr rfl rfl Zqb;refine Z ?_;exact⟨x.md,OddM.r ok,rfl⟩
theorem Zwna(G:Nat->V)(hE:GExp G)(hGo:∀ g,(G g).Old):Spec Tryz.prog G 6 [] Zk (λv _=>v=.bool true):=by
 have hG:=hE.ok;have hW:=Zge G hE;refine Zo 0 141 [.tmp 0] Tryz.func6 λX=>?_;refine Z ?_;refine Z5p G ?_;intro d1 d2 d3 d4 d5;refine Zu ?_;refine Z5b hG [Zx .old .old doorM] zk (Z4p (vs:=doorM.verts.l) (ws:=doorM.ways.l) rfl rfl zp zp zp zp zp) ((Z7c G hE .old .old doorM Zija (λ_=>door_t)).mono ?_);rintro _ _ rfl;rw[Zcca];refine⟨Zri _ _,?_⟩;refine Zs ?_;refine AW.weak (Za (l:=[(0,.bool false),(1,Zb .new 2 Zub (Zl [(8,9)])),(2,.int .i64 0)]) (m:=[]) zp zp) ?_;have hl1:(Zl [((8:Nat),(9:Int))]).l=[(8,9)]:=Zm _
 have hg:(Zl [((8:Nat),(9:Int))]).l[0]?=some (8,9):=by rw[hl1]<;>rfl
 have hn:(((Zl [((8:Nat),(9:Int))]).l.length:Int) != 1)=false:=by rw[hl1]<;>rfl
 have h0:0<(Zl [((8:Nat),(9:Int))]).l.length:=by rw[hl1];decide
 refine Zf (zi hg (zi hn (zi h0 Zah))) ?_;refine Z9 46 (λi (_:Unit)=>st [(3,.int .i64 (i:Int))] []) (λ_ _=>True) 0 () (Nat.zero_le _) trivial (Za zp zp) ?_;intro i _ hi _ L1 hL1
 by_cases h1:i<46
 rotate_left
 .have hlt:decide ((i:Int)<46)=false:=zF
  refine Zf hlt ?_;refine Z9 12 (λk (_:Unit)=>st [(6,.int .u8 ((k+1:Nat):Int))] []) (λ_ _=>True) 0 () (Nat.zero_le _) trivial (Za zp zp) ?_;intro k _ hk _ L3 hL3
  by_cases h3:k<12
  rotate_left;have hke:k=12:=zo;subst hke;have hlt:decide (((12+1:Nat):Int)<=12)=false:=rfl
  have hr0:MdR ⟨[],.nil,.nil,.nil,.nil,.nil⟩:=by constructor<;>simp[Sl.l,txR]
  refine Zf hlt ?_;refine Zc hG ?_ (s:=Zti G hE hGo ⟨[],.nil,.nil,.nil,.nil,.nil⟩ hr0);refine Zc hG ?_ (s:=hW);exact Zr;have hlt:decide (((k+1:Nat):Int)<=12)=true:=zT
  have w3:IntKind.u8.wrap (((k+1:Nat):Int)+1)=((k+1+1:Nat):Int):=by rw[wu8R zo zo]<;>rfl
  refine Z1f hlt ?_;generalize hkd:((k+1:Nat):Int)=kd at w3;refine Z ?_;refine Z9 40 (λw (_:Unit)=>st [(6,.int .u8 kd),(7,.int .i64 (w:Int))] []) (λ_ _=>True) 0 () (Nat.zero_le _) trivial (Za zp zp) ?_;intro w _ hw _ L4 hL4
  have w4:IntKind.i64.wrap ((w:Int)+1)=((w+1:Nat):Int):=by rw[w64 zo zo]<;>rfl
  by_cases h4:w<40
  rotate_left;have hlt:decide ((w:Int)<40)=false:=zF;refine Zf (zi hlt w3) ?_;exact hL3 _ ⟨h3,(),trivial,Za zp zp⟩;have hlt:decide ((w:Int)<40)=true:=zT;refine Z1f hlt ?_;refine Z1 ?_;refine Z5p G ?_;intro e1 e2 e3 e4 e5;refine Zu ?_;intro g8;obtain⟨vs,s1,lv,pv⟩:∃ l':List VtM,(flat (doorM.verts.l.map (Zha .new))).set 65 (.int .u8 kd)=flat (l'.map (Zha .new))/\l'.length=11/\∀ y∈l',OdV y:=Zym (Zrc .new) doorO_ok.lx doorO_ok.x (i:=8) (j:=1) zd (g:=λy=>{ y with kind:=kd }) (λ_=>rfl) (λ_ h=>⟨h.nm,h.t1,h.t2,h.t3,h.dl,h.ds⟩);have hf1:(flat (doorM.verts.l.map (Zha .new))).length=88:=rfl;refine Z1f (zi s1 hf1) ?_;refine Zda (fun(vs:List VtM)=>st [(6,.int .u8 kd),(7,.int .i64 (w:Int)),(8,.ptr 8 g8 0)] [(8,.cells .new g8 0 [.str doorM.name,.msl 7103 e1 0 2 2,.msl 7104 e2 0 3 1,.msl 7108 e3 0 3 2,.msl 7121 e4 0 11 8,.msl 7134 e5 0 8 8]),(7103,.cells .new e1 0 (flat (doorM.vars.l.map Z3))),(7104,.cells .new e2 0 (flat (doorM.events.l.map V.str))),(7108,.cells .new e3 0 (flat (doorM.regions.l.map Z3))),(7121,.cells .new e4 0 (flat (vs.map (Zha .new)))),(7134,.cells .new e5 0 (flat (doorM.ways.l.map (Zqa .new))))]) (fun(vs:List VtM)=>vs.length=11/\∀ y∈vs,OdV y) (λK1 hK1=>?_) ?_;obtain⟨v2,s2,l2,p2⟩:=Zym (v:=.int .i64 (-1)) (Zrc .new) lv pv (i:=8) (j:=2) (k:=66) zd (g:=λy=>{ y with region := -1 }) (λ_=>rfl) (λ_ h=>⟨h.nm,h.t1,h.t2,h.t3,h.dl,h.ds⟩);obtain⟨v3,s3,l3,p3⟩:=Zym (v:=.int .i64 1) (Zrc .new) l2 p2 (i:=8) (j:=3) (k:=67) zd (g:=λy=>{ y with of:=1 }) (λ_=>rfl) (λ_ h=>⟨h.nm,h.t1,h.t2,h.t3,h.dl,h.ds⟩)
  have f1:(flat (vs.map (Zha .new))).length=88:=by rw[Zya (Zrc _),lv]
  have f2:(flat (v2.map (Zha .new))).length=88:=by rw[Zya (Zrc _),l2]
  refine eqE kd 10 (λu=>?_) (λu=>?_);refine Zf (zi u (zi s2 (zi s3 (zi f1 f2)))) ?_;exact hK1 _ v3 ⟨l3,p3⟩ (Za zp zp);refine eqE kd 11 (λu2=>?_) (λu2=>?_);refine Zf (zi u (zi u2 (zi s2 (zi s3 (zi f1 f2))))) ?_;exact hK1 _ v3 ⟨l3,p3⟩ (Za zp zp);refine Zf (zi u u2) ?_;exact hK1 _ vs ⟨lv,pv⟩ (Za zp zp)
  try clear lv pv s1 vs
  rintro vs ⟨lv,pv⟩;refine Zda (fun(a:Nat×TrM)=>st [(6,.int .u8 kd),(7,.int .i64 (w:Int)),(8,.ptr 8 g8 0),(9,.ptr 9 a.1 0)] [(8,.cells .new g8 0 [.str doorM.name,.msl 7103 e1 0 2 2,.msl 7104 e2 0 3 1,.msl 7108 e3 0 3 2,.msl 7121 e4 0 11 8,.msl 7134 e5 0 8 8]),(7103,.cells .new e1 0 (flat (doorM.vars.l.map Z3))),(7104,.cells .new e2 0 (flat (doorM.events.l.map V.str))),(7108,.cells .new e3 0 (flat (doorM.regions.l.map Z3))),(7121,.cells .new e4 0 (flat (vs.map (Zha .new)))),(7134,.cells .new e5 0 (flat (doorM.ways.l.map (Zqa .new)))),(9,.cells .new a.1 0 (Zqa .new a.2).cells)]) (λa=>OdW a.2) (λK1 hK1=>?_) ?_;have q:w%3=0\/w%3=1\/w%3=2:=zo;have e:(w:Int).tmod 3=((w%3:Nat):Int):=rfl
  rcases q with q|q|q<;>rw[q]at e
  refine Zf e ?_;intro g98 g9;exact hK1 _ (g9,⟨[],8,(w:Int).tmod 11,.nil,0,[],[],_⟩) (odW (Nat.zero_le _)) (Za zp zp);refine Zf e ?_;intro g98 g9;exact hK1 _ (g9,⟨[],8,(w:Int).tmod 11,.nil,0,[101,108,115,101],[],_⟩) (odW (show 4<=5000 by decide)) (Za zp zp);refine Zf e ?_;intro g98 g9;exact hK1 _ (g9,⟨[],8,(w:Int).tmod 11,.nil,0,[110,32,62,32,49],[],_⟩) (odW (show 5<=5000 by decide)) (Za zp zp);rintro⟨g9,t⟩ ht;simp only;simp only at ht;refine Zda (fun(a:Nat×TrM)=>st [(6,.int .u8 kd),(7,.int .i64 (w:Int)),(8,.ptr 8 g8 0),(9,.ptr 9 g9 0),(10,.ptr 10 a.1 0)] [(8,.cells .new g8 0 [.str doorM.name,.msl 7103 e1 0 2 2,.msl 7104 e2 0 3 1,.msl 7108 e3 0 3 2,.msl 7121 e4 0 11 8,.msl 7134 e5 0 8 8]),(7103,.cells .new e1 0 (flat (doorM.vars.l.map Z3))),(7104,.cells .new e2 0 (flat (doorM.events.l.map V.str))),(7108,.cells .new e3 0 (flat (doorM.regions.l.map Z3))),(7121,.cells .new e4 0 (flat (vs.map (Zha .new)))),(7134,.cells .new e5 0 (flat (doorM.ways.l.map (Zqa .new)))),(9,.cells .new g9 0 (Zqa .new t).cells),(10,.cells .new a.1 0 (Zqa .new a.2).cells)]) (λa=>OdW a.2) (λK1 hK1=>?_) ?_;refine Z ?_;intro g10;exact hK1 _ (g10,⟨[],_,8,.nil,0,[],[],1⟩) (odW (Nat.zero_le _)) (Za zp zp);rintro⟨g10,u⟩ hu;simp only[Z7,V.cells];simp only at hu;refine Z1 ?_;intro g111;refine⟨Z5 zo zo,zd,λg112=>?_⟩;refine eqE ((w:Int).tmod 2) 0 (λu2=>?_) (λu2=>?_);refine Z1f u2 ?_;refine Z1 ?_;intro g120;refine⟨Z5 zo zo,(show 72<=72 by decide),λg121=>?_⟩;refine eqE ((w:Int).tmod 5) 0 (λu5=>?_) (λu5=>?_)
  refine Z1f u5 ?_;refine Z1 ?_;intro g130;refine⟨Z5 zo zo,(show 80<=80 by decide),λg132=>?_⟩;refine Z1 ?_;refine Z5b hG _ zk (Z4p (ws:=doorM.ways.l++[t,u,t,u]) lv rfl zp zp zp zp zp) ((Zti G hE hGo _ (Z8t (ws:=[t,u,t,u]) lv pv (by simp[ht,hu]))).mono ?_);rintro _ _ rfl;refine⟨.bool _,?_⟩;refine Zs ?_;refine Zf w4 ?_;exact hL4 _ ⟨h4,(),trivial,Za zp zp⟩;refine Z1f u5 ?_;refine Z1 ?_;refine Z5b hG _ zk (Z4p (ws:=doorM.ways.l++[t,u]) lv rfl zp zp zp zp zp) ((Zti G hE hGo _ (Z8t (ws:=[t,u]) lv pv (by simp[ht,hu]))).mono ?_);rintro _ _ rfl;refine⟨.bool _,?_⟩;refine Zs ?_;refine Zf w4 ?_;exact hL4 _ ⟨h4,(),trivial,Za zp zp⟩;refine Z1f u2 ?_;refine eqE ((w:Int).tmod 5) 0 (λu5=>?_) (λu5=>?_);refine Z1f u5 ?_;refine Z1 ?_;intro g130;refine⟨Z5 zo zo,(show 72<=72 by decide),λg132=>?_⟩;refine Z1 ?_;refine Z5b hG _ zk (Z4p (ws:=doorM.ways.l++[t,t,u]) lv rfl zp zp zp zp zp) ((Zti G hE hGo _ (Z8t (ws:=[t,t,u]) lv pv (by simp[ht,hu]))).mono ?_);rintro _ _ rfl;refine⟨.bool _,?_⟩;refine Zs ?_;refine Zf w4 ?_;exact hL4 _ ⟨h4,(),trivial,Za zp zp⟩;refine Z1f u5 ?_;refine Z1 ?_;refine Z5b hG _ zk (Z4p (ws:=doorM.ways.l++[t]) lv rfl zp zp zp zp zp) ((Zti G hE hGo _ (Z8t (ws:=[t]) lv pv (by simp[ht,hu]))).mono ?_);rintro _ _ rfl;refine⟨.bool _,?_⟩;refine Zs ?_;refine Zf w4 ?_;exact hL4 _ ⟨h4,(),trivial,Za zp zp⟩
 have hlt:decide ((i:Int)<46)=true:=zT;refine Z1f hlt ?_;refine Z1 ?_;refine CallA.inl [] zk (by intro p hp;cases hp) ?_;refine(Znha G hG i).mono ?_;rintro _ H' ⟨m,hr,rfl⟩;simp -implicitDefEqProofs only[go_sem,seval,Zab,List.map_nil];intro g4;refine AW.weak (Zt (λo=>o==4) (l:=[(3,.int .i64 (i:Int)),(4,.view .new (Zx .new .new m))]) (m:=[]) ?_ trivial) ?_;refine Zs ?_;exact⟨Fz.same _,Fz.ptr (v:=Zx .new .new m) (c:=.new) (fz:=0) zp zp⟩;refine Zda (fun(_:Unit)=>st [(3,.int .i64 (i:Int)),(4,.view .new (Zx .new .new m))] []) (λ_=>True) (λK1 hK1=>?_) ?_;refine Zf Zd ?_;refine Zc hG ?_ (s:=Zti G hE hGo m hr);refine Zc hG ?_ (s:=Zvna G hE m hr [120] []);cases h3:((i:Int).tmod 3==0);refine Zsf h3 ?_;refine Z ?_;exact hK1 _ () trivial (Za zp zp);refine Zsf (zi h3 Zd) ?_;refine Zc hG ?_ (s:=Zcia G hE m hr);refine Z ?_;exact hK1 _ () trivial (Za zp zp);intro _ _;refine Z ?_;refine Z9 15 (λk (_:Unit)=>st [(3,.int .i64 (i:Int)),(4,.view .new (Zx .new .new m)),(5,.int .u8 ((k+1:Nat):Int))] []) (λ_ _=>True) 0 () (Nat.zero_le _) trivial (Za zp zp) ?_;intro k _ hk _ L2 hL2
 have w1:IntKind.i64.wrap ((i:Int)+1)=((i+1:Nat):Int):=by rw[w64 zo zo]<;>rfl
 by_cases h2:k<15
 rotate_left;have hke:k=15:=zo;subst hke;have hlt:decide (((15+1:Nat):Int)<16)=false:=rfl;refine Zf (zi hlt w1) ?_;exact hL1 _ ⟨h1,(),trivial,Za zp zp⟩;have hlt:decide (((k+1:Nat):Int)<16)=true:=zT
 have w2:IntKind.u8.wrap (((k+1:Nat):Int)+1)=((k+1+1:Nat):Int):=by rw[wu8R zo zo]<;>rfl
 refine Z1f hlt ?_;refine Zf Zd ?_;refine Zc hG ?_ (s:=lWfRule G hE m hr ((k+1:Nat):Int) ((i:Int).tmod 12) 1 ⟨by show(0:Int)<=_;omega,by show _<=(255:Int);omega⟩);refine Zf w2 ?_;exact hL2 _ ⟨h2,(),trivial,Za zp zp⟩
end Go.Hs
end

section
namespace Go.Proofs.YtegjlbpnpiigkaaGreatDoor
open Go.RowKit Go.Hs
set_option maxRecDepth 100000
def Zwh:List (String × DataW Unit):=[("math/bits.deBruijn32tab",Rows.laid_math_bits_deBruijn32tab),("math/bits.deBruijn64tab",Rows.laid_math_bits_deBruijn64tab),("internal/strconv.uint64pow10",Rows.laid_internal_strconv_uint64pow10),("unicode/utf8.acceptRanges",Rows.laid_unicode_utf8_acceptRanges),("strconv.ErrRange",Rows.laid_strconv_ErrRange),("strconv.ErrSyntax",Rows.laid_strconv_ErrSyntax),("hopscotch/lex.signs",Rows.laid_hopscotch_lex_signs),("unicode/utf8.first",Rows.laid_unicode_utf8_first)]
noncomputable def low:Nat:=(World.holding Tryz.prog default ⟨#[],#[],[]⟩).heap.size
def b32:List Int:=[0,1,28,2,29,14,24,3,30,22,20,15,25,17,4,8,31,27,13,23,21,19,16,7,26,12,18,6,11,5,10,9]
def b64:List Int:=0::1::56::2::57::49::28::3::61::58::42::50::38::29::17::4::62::47::59::36::45::43::51::22::53::39::33::30::24::18::12::5::63::55::48::27::60::41::37::16::46::35::44::21::52::32::23::11::54::26::40::15::34::20::31::10::25::14::19::9::13::8::7::6::[]
def acR:List Int:=[128,191,160,191,128,159,144,191,128,143]++List.replicate 22 0
def errR:ByteArray:={ data := #[118,97,108,117,101,32,111,117,116,32,111,102,32,114,97,110,103,101] }
def errS:ByteArray:={ data := #[105,110,118,97,108,105,100,32,115,121,110,116,97,120] }
def Zhe(cs:Array Value):Obj->Obj
 |.cells _ t frozen=>.cells cs t frozen
 |o=>o
noncomputable def laidWorld (os:Os):World:=
 let w0:=World.holding Tryz.prog os ⟨#[.cells #[.string errR] 428,.cells #[.string errS] 428],#[],[]⟩
 { w0 with heap:=(((((((w0.heap.modify 2 (Zhe #[.iface 426 (.pointer (some ⟨low,0,none⟩))])).modify 5 (Zhe #[.iface 426 (.pointer (some ⟨low+1,0,none⟩))])).modify 6
   (Zhe (Lib.pow10Tab.map (Value.int .u64)).toArray)).modify 7 (Zhe (b32.map (Value.int .u8)).toArray)).modify 8 (Zhe (b64.map (Value.int .u8)).toArray)).modify 4 (Zhe (acR.map (Value.int .u8)).toArray)).modify
   0 (Zhe (signsL.map λs=>Value.string ⟨s.toArray⟩).toArray)).modify 3 (Zhe (Pinned.utf8FirstZ.map fun(n:Nat)=>Value.int .u8 (n:Int)).toArray) }
theorem Zwt(os:Os)(args:Array Value):laidMet Tryz.prog Zwh ((laidWorld os).forCall (λ_ _=>0) ⟨#[],args,[]⟩).memory:=
 laidMet_of_run' 8 (by kernel_rfl) (by kernel_rfl)
end Go.Proofs.YtegjlbpnpiigkaaGreatDoor
end

section
namespace Go.Proofs.YtegjlbpnpiigkaaGreatDoor
open Go.RowKit Go.Hs
set_option maxRecDepth 100000
theorem Zib{P:Program}{W:World}{x:String×DataW Unit}{r:List (String×DataW Unit)}(h:laidMet P (x::r) W):laidMet P r W:=by
 obtain⟨n,d⟩:=x;obtain⟨ps,⟨g0,t0,cs0,f0,p0,q0,hg0,ht0,hv0,hd0,hq,e0⟩,hnd,hrows⟩:=h;subst e0;exact⟨q0,hq,(List.nodup_append.1 hnd).2.1,λb off hm=>hrows b off (List.mem_append.2 (.inr hm))⟩
noncomputable def gE (m:Int):Nat->V:=λg=>if g=2 then .view .old (.iface 426 (.view .old (.agg [])))else if g=6 then .view .old (.agg (Lib.pow10Tab.map (V.int .u64)))
 else if g=0 then .view .old (.agg (signsL.map V.str))else if g=1 then .view .old (.int .i64 m)else .top
theorem Z6o(f:Col->Col):∀ l:List Int,Z8a f (l.map (V.int .u64))=l.map (V.int .u64)
 |[]=>rfl
 |x::r=>by simp only[List.map_cons,Z8a];rw[Z6o f r]<;>rfl
theorem Z5o(f:Col->Col):∀ l:List (List UInt8),Z8a f (l.map V.str)=l.map V.str
 |[]=>rfl
 |x::r=>by simp only[List.map_cons,Z8a];rw[Z5o f r]<;>rfl
theorem gE_ok(m:Int):GExp (gE m) where
 ok:=λg=>by
  unfold gE
  split
  exact⟨rfl,.view _ _ λx hx=>by simp[V.cells]at hx;subst hx;exact .iface _ _ (.view _ _ λx hx=>by simp[V.cells]at hx)⟩
  split
  refine⟨by simp only[V.recol,Col.ent,Z6o],.view _ _ λx hx=>?_⟩;obtain⟨n,_,rfl⟩:=List.mem_map.1 hx;exact .int _ _
  split
  refine⟨by simp only[V.recol,Col.ent,Z5o],.view _ _ λx hx=>?_⟩;obtain⟨n,_,rfl⟩:=List.mem_map.1 hx;exact .str _
  split
  exact⟨rfl,.view _ _ λx hx=>by simp[V.cells]at hx;subst hx;exact .int _ _⟩;exact⟨rfl,.top⟩
 er:=⟨_,_,_,rfl⟩
 tab:=⟨_,rfl⟩
 sg:=⟨_,rfl⟩
 ml:=⟨_,m,rfl⟩
theorem gE_old(m:Int)(g:Nat):(gE m g).Old:=by
 unfold gE
 split
 exact .view _ λx hx=>by simp[V.cells]at hx;subst hx;exact .iface _ _ (.view _ λx hx=>by simp[V.cells]at hx)
 split
 refine .view _ λx hx=>?_;obtain⟨n,_,rfl⟩:=List.mem_map.1 hx;exact .int _ _
 split
 refine .view _ λx hx=>?_;obtain⟨n,_,rfl⟩:=List.mem_map.1 hx;exact .str _
 split
 exact .view _ λx hx=>by simp[V.cells]at hx;subst hx;exact .int _ _
 exact .top
theorem gER:Tryz.prog.globalNamed "strconv.ErrRange" = some 2:=by kernel_rfl
theorem gERType:(Tryz.prog.globals[2]?).map (·.type)=some 379:=by kernel_rfl
theorem Zdoa:Tryz.prog.cellsOf 428=1:=by kernel_rfl
theorem Zjpa:Tryz.prog.cellsOf 9=1:=by kernel_rfl
theorem star : "*" ++ "errors.errorString" = "*errors.errorString" := by decide
theorem row109 (u:TypeId) (h:Tryz.prog.typeName? 3 u=some "*errors.errorString"):u=426 :=
 typeName_ptr_named (nm := "errors.errorString") (by rw [star];kernel_rfl) (by kernel_rfl) (by decide) u (by rw [star];exact h)
theorem gTab:Tryz.prog.globalNamed "internal/strconv.uint64pow10" = some 6:=by kernel_rfl
theorem Z7na:∃ t n,(Tryz.prog.globals[6]?).map (·.type)=some t/\Tryz.prog.underlying t=some (.array n 265)/\Tryz.prog.cellsOf t=n/\n=20:=by
 refine⟨(((Tryz.prog.globals[6]?).map (·.type)).getD 0),20,by kernel_rfl,by kernel_rfl,by kernel_rfl,rfl⟩
theorem Ztna {W:World} (h:laidMet Tryz.prog Zwh W):Lib.TabIs Tryz.prog W "internal/strconv.uint64pow10" .u64 Lib.pow10Tab:=by
 obtain⟨t,n,h1,h2,h3,rfl⟩:=Z7na
 have e:(Rows.laid_internal_strconv_uint64pow10:DataW Unit)=Lib.tabData .u64 Lib.pow10Tab:=by rfl
 have h4:=Zib (Zib h);rw[e]at h4;exact Lib.tabIs_of_head gTab h1 h2 Tryz.underlying265 (by kernel_rfl) h3 h4
theorem Zuna{W:World}(h:laidMet Tryz.prog Zwh W):∃ b off,W.cell? ⟨2,0,none⟩=some (.iface 426 (.pointer (some ⟨b,off,none⟩))):=by
 obtain⟨a,s,h1,h2,_,_⟩:=laid_sentinel (Zib (Zib (Zib (Zib h)))) gER gERType Tryz.underlying379 row109 Tryz.underlying426 Tryz.underlying428 rfl rfl Tryz.underlying9 Zdoa Zjpa;have h0:=World.var?_cell gER h1 0;have hs:=World.cell?_spot h2;obtain⟨b,off,sp⟩:=a;have hs:sp=none:=hs;subst hs;exact⟨b,off,by simpa using h0⟩
def Zm1{H:Type}(zs:List (List UInt8)):DataW H:=.agg (zs.map λz=>.lit (.string z))
theorem Zdu{H:Type}{enc:TypeId×Value->H}{P:Program}{w:World}{base:Nat}{sp:Nat->Bool}{held:Bool}{fuel:Nat}{t e:TypeId}{n:Nat}{cs:List Value}{zs:List (List UInt8)}{p:List MemPlace}
  (ht:P.underlying t=some (.array n e)) (he:P.underlying e=some .string) (hce:P.cellsOf e=1) (hct:P.cellsOf t=n)
  (h:DataW.trod enc P w base sp held fuel t cs=some (Zm1 zs,p)):cs.length=zs.length/\∀ i (hi:i<zs.length),∃ s:ByteArray,cs[i]?=some (.string s)/\s.data.toList=zs[i]:=by
 cases fuel with
 |zero=>simp[DataW.trod]at h
 |succ fuel=>
  simp only[DataW.trod,ht,hce,hct,Nat.mul_one]at h
  split at h
  rename_i hl;obtain⟨xs,hm,hx⟩:=Option.map_eq_some_iff.1 h
  have hxs:xs.map (·.1)=zs.map λz=>(DataW.lit (.string z):DataW H):=by
   have:=congrArg Prod.fst hx;simpa[Zm1]using this
  have hxl:xs.length=n:=by simpa using Lib.mapM_length hm
  have hzl:zs.length=n:=by
   have:=congrArg List.length hxs;simp at this;omega
  refine⟨by omega,λi hi=>?_⟩
  have hin:i<n:=by omega
  obtain⟨b,hb,hf⟩:=Lib.mapM_at hm i i (by simp[hin]);obtain⟨z,hc,rfl,_⟩:=DataW.trod_string he hf
  have h1:cs[i]?=some (.string z):=by
   have:=congrArg (·[0]?) hc;simpa[List.getElem?_take,List.getElem?_drop]using this
  have h2:(xs.map (·.1))[i]?=some (DataW.lit (.string z.data.toList):DataW H):=by simp[hb]
  rw[hxs,List.getElem?_map,List.getElem?_eq_getElem hi]at h2;refine⟨z,h1,?_⟩;have h3:(DataW.lit (.string zs[i]):DataW H)=.lit (.string z.data.toList):=Option.some.inj h2
  injection h3 with h3
  injection h3 with h3
  exact h3.symm;cases h
theorem gSg:Tryz.prog.globalNamed "hopscotch/lex.signs" = some 0:=by kernel_rfl
theorem gSgType:(Tryz.prog.globals[0]?).map (·.type)=some 280:=by kernel_rfl
theorem Z1ba {W:World} (h:laidMet Tryz.prog Zwh W):∃ cs:Array Value,W.var? Tryz.prog "hopscotch/lex.signs" = some cs∧cs.size=14∧∀ i (hi:i<signsL.length),∃ s:ByteArray,cs[i]? = some (.string s)∧s.data.toList=signsL[i]:=by
 have e:(Rows.laid_hopscotch_lex_signs:DataW Unit)=Zm1 signsL:=by rfl
 have h4:=Zib (Zib (Zib (Zib (Zib (Zib h)))));rw[e]at h4;obtain⟨ps,⟨g',t',cs,fuel,p,q,hg',ht',hvar,hd,_,_⟩,_⟩:=h4;obtain rfl:=Option.some.inj (gSg.symm.trans hg');obtain rfl:=Option.some.inj (gSgType.symm.trans ht');obtain⟨h1,h2⟩:=Zdu Tryz.underlying280 Tryz.underlying9 Zjpa (by kernel_rfl) hd;refine⟨_,hvar,(by simpa using h1:cs.size=signsL.length).trans rfl,λi hi=>?_⟩;obtain⟨s,h3,h4⟩:=h2 i hi;exact⟨s,by simpa using h3,h4⟩
theorem Zyha{W:World}(h:W.ShapedOpen Tryz.prog):∃ m,W.cell? ⟨1,0,none⟩=some (.int .i64 m):=by
 obtain⟨cs,hh,hs,hr⟩:=h.1 1 #[.int .i64 0] 3 (of_decide_eq_true (by kernel_rfl)) (by kernel_rfl);obtain⟨ts,hts,_,hall⟩:=hr (by kernel_rfl);rw[show Tryz.prog.cellTypes Tryz.prog.depth 3=some [3] by kernel_rfl]at hts;cases hts
 have h1:0<cs.size:=by rw[hs];decide
 obtain⟨u,hu',hok⟩:=hall 0 cs[0] (by simp[h1])
 have:u=3:=by simpa using hu'.symm
 subst this
 have hcell:W.cell? ⟨1,0,none⟩=some cs[0]:=by simp[World.cell?,hh,h1]
 rw[hcell];unfold Cell.ok at hok;rw[Tryz.underlying3]at hok
 cases hv:cs[0]<;>rw[hv]at hok<;>first|(obtain⟨rfl,_⟩:=hok;exact⟨_,rfl⟩)|simp at hok
theorem laid_G{W:World}(h:laidMet Tryz.prog Zwh W)(hS:W.ShapedOpen Tryz.prog):∃ m,∀ g,RelG (Zue W) g (gE m g):=by
 obtain⟨m,hml⟩:=Zyha hS;refine⟨m,λg=>?_⟩;unfold gE
 split
 rename_i hg;subst hg;obtain⟨b,off,h1⟩:=Zuna h;refine⟨?_,trivial⟩;refine .view .old _ 2 0 (λ_=>.iface 426 (.pointer (some ⟨b,off,none⟩))) (λi hi=>?_) (λi hi=>?_)
 have:i=0:=by simpa[V.cells]using hi
 subst this;refine⟨by show(W.cell? _).isSome=true;rw[h1]<;>rfl,World.block_lt_of_cell? _ _ h1,h1,rfl⟩
 have:i=0:=by simpa[V.cells]using hi
 subst this;exact .iface _ _ _ (.view .old _ b off (λ_=>.nilIface) (λi hi=>by simp[V.cells]at hi) (λi hi=>by simp[V.cells]at hi))
 split
 rename_i hg;subst hg;have ht:=Ztna h;have hc:∀ i (hi:i<Lib.pow10Tab.length),W.cell? ⟨6,i,none⟩=some (.int .u64 (Lib.pow10Tab.getD i 0)):=λi hi=>ht.cell gTab i hi;have hlen:Lib.pow10Tab.length=20:=Lib.pow10Tab_length;have hlt:6<W.heap.size:=World.block_lt_of_cell? _ _ (hc 0 (by omega))
 have hv:W.var? Tryz.prog "internal/strconv.uint64pow10" = some (Lib.pow10Tab.map fun z=>Value.int .u64 z).toArray:=ht
 refine⟨?_,?_⟩;refine .view .old _ 6 0 (λi=>.int .u64 (Lib.pow10Tab.getD i 0)) (λi hi=>?_) (λi hi=>?_)
 have hi:i<Lib.pow10Tab.length:=by simpa[V.cells]using hi
 rw[Nat.zero_add];exact⟨by show(W.cell? _).isSome=true;rw[hc i hi]<;>rfl,hlt,hc i hi,rfl⟩
 have hi':i<Lib.pow10Tab.length:=by simpa[V.cells]using hi
 have key:∀ v,v=V.int .u64 (Lib.pow10Tab.getD i 0)->Rel (Zue W) (Value.int .u64 (Lib.pow10Tab.getD i 0)) v:=λv e=>by rw[e];exact .int _ _
 exact key _ (by simp[V.cells,List.getD,hi']);refine⟨hlt,?_⟩;unfold World.var? at hv;rw[gTab]at hv;have hv:(match W.heap[6]? with|some (Obj.cells cs _ _)=>some cs|_=>none)=some (Lib.pow10Tab.map λz=>Value.int .u64 z).toArray:=hv
 split at hv
 rename_i cs t fr hh;cases hv;exact⟨_,t,fr,hh,by simp⟩;cases hv
 split
 rename_i hg;subst hg;obtain⟨cs,hv,hsz,hcs⟩:=Z1ba h;have h0:=λi=>World.var?_cell gSg hv i
 have hc:∀ i (hi:i<signsL.length),∃ s:ByteArray,W.cell? ⟨0,i,none⟩=some (.string s)/\s.data.toList=signsL[i]:=λi hi=>by
  obtain⟨s,h1,h2⟩:=hcs i hi;exact⟨s,by rw[h0 i];exact h1,h2⟩
 have hlt:0<W.heap.size:=by
  obtain⟨s,h1,_⟩:=hc 0 (by decide);exact World.block_lt_of_cell? _ _ h1
 refine⟨?_,?_⟩;refine .view .old _ 0 0 (λi=>(cs[i]?).getD undef) (λi hi=>?_) (λi hi=>?_)
 have hi:i<signsL.length:=by simpa[V.cells]using hi
 obtain⟨s,h1,_⟩:=hcs i hi;rw[Nat.zero_add,h1]
 have h2:W.cell? ⟨0,i,none⟩=some (.string s):=by rw[h0 i];exact h1
 exact⟨by show(W.cell? _).isSome=true;rw[h2]<;>rfl,hlt,h2,rfl⟩
 have hi':i<signsL.length:=by simpa[V.cells]using hi
 obtain⟨s,h1,h2⟩:=hcs i hi';rw[h1]
 have key:∀ v,v=V.str signsL[i]->Rel (Zue W) (Value.string s) v:=λv e=>by rw[e];exact .str _ _ h2
 exact key _ (by simp[V.cells]);refine⟨hlt,?_⟩;unfold World.var? at hv;rw[gSg]at hv;have hv:(match W.heap[0]? with|some (Obj.cells cs _ _)=>some cs|_=>none)=some cs:=hv
 split at hv
 rename_i cs' t fr hh;cases hv;exact⟨_,t,fr,hh,by rw[hsz]<;>rfl⟩;cases hv
 split
 rename_i hg;subst hg;refine⟨?_,trivial⟩;refine .view .old _ 1 0 (λ_=>.int .i64 m) (λi hi=>?_) (λi hi=>?_)
 have:i=0:=by simpa[V.cells]using hi
 subst this;refine⟨by show(W.cell? _).isSome=true;rw[hml]<;>rfl,World.block_lt_of_cell? _ _ hml,hml,rfl⟩
 have:i=0:=by simpa[V.cells]using hi
 subst this;exact .int _ _;exact⟨.top _,trivial⟩
end Go.Proofs.YtegjlbpnpiigkaaGreatDoor
end

section
namespace Go.Proofs.YtegjlbpnpiigkaaGreatDoor
open Go.RowKit Go.Hs Go.ChangeShapes Go.WideShapes Go.ChangeAt
open Go.ChangeMaps (open_string shut_string)
set_option maxRecDepth 100000
variable{W:World}{H:Type}{enc:TypeId×Value->H}{b0:Nat}{v:Value}{d:DataW H}{ps:List MemPlace}
theorem own:ownKnob Tryz.prog.godebug=none:=by kernel_rfl
theorem laidOut:laidOutB Tryz.prog=true:=by kernel_rfl
theorem Zp2{a:Assume}{C:Checked}{os:Os}{f:FuncId}{fn:Func}{H:Type}{enc:TypeId×Value->H}{s:ChangeSpec}{conds:List PathCond}{apart fresh handsOn again:Bool}{X:World->Array Value->Prop}
  (hX:∀ (w w':World) (args:Array Value),w.heap=w'.heap->X w args->X w' args)
  (ownk:ownKnob C.prog.godebug=none) (started:os.Started) (noInit:C.prog.inits.idxOf? f=none) (hfn:C.prog.funcs[f]?=some fn)
  (witness:∃ (w:World) (tape:Tape) (i:Input),w.os=os/\(w.forCall tape i).Shaped C.prog/\i.vars=[]/\Input.okWide C.prog (w.forCall tape i) .any w.heap.size f i /\
   ((s.pre enc C.prog fn conds apart (w.forCall tape i).memory i.args/\X (w.forCall tape i).memory i.args)/\sizedMet enc C.prog fn (OpenSpec.ofChange s) apart (w.forCall tape i).memory i.args)/\a.holds C.prog (lone (Frame.enter C.prog f i.args .normal) [] (w.forCall tape i)))
  (contract:∀ (W:World) (base:Nat) (args:Array Value) (ds gs:List (DataW H)) (before:List MemPlace),W.ShapedOpen C.prog ->
   (∀ (j:Nat) t v,fn.params[j]?=some t->args[j]?=some v->Value.okWide C.prog W .any base t v) ->
   DataW.Whole enc C.prog fn.params.toList s.vars apart W args.toList ds gs before->X W args ->
   Calls C.prog f args W λe W'=>∃ v,e=.returned v/\s.post enc C.prog fn apart fresh handsOn again W args v W'):
  ReturnsInHanded a C os f .any (λw args=>(s.pre enc C.prog fn conds apart w args/\X w args)/\sizedMet enc C.prog fn (OpenSpec.ofChange s) apart w args) (s.post enc C.prog fn apart fresh handsOn again):=by
 refine returnsInHanded_of_calls ownk started noInit witness ?_;intro w tape i _ hsh _ hok hpre _;obtain⟨_,_,_,fn',hfn',_,_,_,_,hval⟩:=hok;have e:fn'=fn:=Option.some.inj (hfn'.symm.trans hfn);subst e;obtain⟨⟨⟨ds,gs,before,hw,_⟩,hx⟩,_⟩:=hpre;have hw':=DataW.Whole.of_heap (w':=w.forCall tape i) (by rfl) hw;refine(contract (w.forCall tape i) w.heap.size i.args ds gs before hsh hval hw' (hX _ _ _ (by rfl) hx)).mono λe W' ⟨v,he,hp⟩=>?_;subst he;exact ChangeSpec.post_blind hp
end Go.Proofs.YtegjlbpnpiigkaaGreatDoor
end

section
namespace Go.Proofs.YtegjlbpnpiigkaaGreatDoor
open Go.RowKit Go.Hs Go.ChangeShapes Go.WideShapes Go.ChangeAt
set_option maxRecDepth 100000
set_option maxHeartbeats 4000000
theorem sfMaps:mapsRowed Tryz.prog=true:=by kernel_rfl
theorem sfStops:(Tryz.prog.stops==[])=true:=by kernel_rfl
theorem sfKnobs:(Tryz.prog.stopKnobs==[])=true:=by kernel_rfl
theorem sfKeys:(Rows.wfCheckRow.plainKeys==Tryz.prog.plainKeys)=true:=by kernel_rfl
theorem sfHeard:Tryz.prog.stopsHeard=true:=by kernel_rfl
theorem sfEnter:Tryz.prog.mayEnter=true:=by kernel_rfl
theorem Zhma:(Rows.wfCheckRow.lifted==Tryz.prog.liftsFinal)=true:=by kernel_rfl
theorem sfMake:(Tryz.prog.make==some Rows.wfCheckRow.make)=true:=by kernel_rfl
end Go.Proofs.YtegjlbpnpiigkaaGreatDoor
end
