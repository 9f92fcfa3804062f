/- A part. No condition. -/
import Derived.Test.YtegjlbpnpiigkaaGreatDoorP50
import Derived.Test.YtegjlbpnpiigkaaGreatDoorP48
import Derived.Test.YtegjlbpnpiigkaaGreatDoorRows
import Derived.ProofKit
import Derived.OpenShut
import Derived.LaidLaws
import Derived.Stop.LaidErr
import Derived.Lib.LaidTab
import Derived.Handed
import Derived.ChangeMaps5
set_option linter.all false
section
namespace Go.Hs
open Go.Proofs
set_option maxRecDepth 10000
set_option maxHeartbeats 4000000
def Zyj(p:Bool×VtM):V:=Zra (if p.1 then .new else .old) p.2
def Zul(p:Bool×TrM):V:=Z6a (if p.1 then .new else .old) p.2
theorem Zii(p:Bool×VtM):(Zyj p).cells.length=8:=rfl
theorem Zki(p:Bool×TrM):(Zul p).cells.length=8:=rfl
theorem Zcd{α β : Type}(f : α -> β){l:List α}{i:Nat}{x y : α}(h:l[i]?=some x)(e:f y=f x):(l.set i y).map f=l.map f:=by
 rw[List.map_set,e];refine List.ext_getElem? λj=>?_;rw[List.getElem?_set]
 split
 rename_i q;subst q
 rw[List.length_map,if_pos (List.getElem?_eq_some_iff.1 h).1,List.getElem?_map,h]<;>rfl
 rfl
theorem Z2v{α : Type}{P : α -> Prop}{l:List α}{i:Nat}{y : α}(h:∀ x∈l,P x)(hy:P y):∀ x∈l.set i y,P x:=λx hx=>by
 rcases List.mem_or_eq_of_mem_set hx with q|rfl
 exact h x q;exact hy
structure CpV(m:MdM)(L:List (Bool×VtM)):Prop where
 p:L.map (·.2.p)=m.verts.l.map VtM.p
structure CpW(m:MdM)(L:List (Bool×TrM)):Prop where
 p:L.map (·.2.p)=m.ways.l.map TrM.p
theorem CpV.len{m:MdM}{L:List (Bool×VtM)}(h:CpV m L):L.length=m.verts.l.length:=by
 have:=congrArg List.length h.p;rwa [List.length_map,List.length_map]at this
theorem CpW.len{m:MdM}{L:List (Bool×TrM)}(h:CpW m L):L.length=m.ways.l.length:=by
 have:=congrArg List.length h.p;rwa [List.length_map,List.length_map]at this
theorem Z41(G:Nat->V)(hG:GOk G)(c:Col)(m:MdM)(hb:MdB m):
  InSp Tryz.prog G 18 [Z3 c .old m] (Z4a Zk [(5205,.dead),(5305,.dead),(5405,.dead)])
   (λv H'=>∃ gr gv gw LV LW,CpV m LV/\CpW m LW/\v=.agg [.str m.name,Za .new 2 Zaa m.vars.cl,Za .new 1 V.str m.events.cl,objV m.regions.isNil 5205 gr 2 m.regions.l.length,objV m.verts.isNil 5305 gv 8 m.verts.l.length,objV m.ways.isNil 5405 gw 8 m.ways.l.length]/\H' 5205=Zwe m.regions.isNil gr m.regions.l.length (flat (m.regions.l.map Zaa))/\H' 5305=Zwe m.verts.isNil gv m.verts.l.length (flat (LV.map Zyj))/\H' 5405=Zwe m.ways.isNil gw m.ways.l.length (flat (LW.map Zul))):=by
 refine Zdb 0 64 [.cell 2 28] Tryz.func18 rfl rfl rfl rfl λX=>?_;simp only[Z4a,Zi];have b1:=hb.nv;have b2:=hb.ne;have b3:=hb.nr;have b4:=hb.nx;have b5:=hb.nw;refine Z1 ?_;intro g1 g2;refine Z8 ?_;refine Z04 [0,1,3,4,6,7,2,5,9,8,10,11,12,13,14] [] ⟨λj=>if j=2 then Za .new 2 Zaa m.vars.cl else if j=5 then Za .new 1 V.str m.events.cl else .top,λj=>if j=8 then .any else .pure⟩ zk hG zk zk zk zk ?_;simp -implicitDefEqProofs only[go_sem,seval,List.getElem?_cons_zero,List.getElem?_cons_succ];refine⟨⟨by kernel_rfl,?_⟩,⟨by kernel_rfl,?_⟩,?_⟩;simp -implicitDefEqProofs only[go_sem,seval,Zte,List.map_cons,List.map_nil]
 exact(Zdr G _ m.vars zo).mono λv _ e=>by rw[e,Zte]<;>rfl
 .simp -implicitDefEqProofs only[go_sem,seval,Z1a,List.map_cons,List.map_nil]
  exact(Z5f G _ m.events zo).mono λv _ e=>by rw[e];simp -implicitDefEqProofs only[go_sem,seval,Z1a];try rfl
 show CallA _ _ _ _ _ _
 refine CallA.inl [(5205,.dead)] zk ?_ ?_;intro p hp;rw[List.mem_singleton]at hp;subst hp;exact zp;refine(Zpv G _ m.regions zo).mono ?_;rintro _ H' ⟨gr,rfl,q⟩;simp only[List.map_cons,List.map_nil,q];simp -implicitDefEqProofs only[go_sem,seval,Z4a,List.getElem?_cons_zero,List.getElem?_cons_succ]
 refine Zjb (fun(p:Nat×Nat)=>st [(1,.ptr 1 g1 0),(2,.ptr 2 g2 0)] [(1,.cells .new g1 0 [.str m.name,Za .new 2 Zaa m.vars.cl,Za .new 1 V.str m.events.cl,objV m.regions.isNil 5205 gr 2 m.regions.l.length,objV m.verts.isNil 5305 p.1 8 m.verts.l.length,objV m.ways.isNil 5405 p.2 8 m.ways.l.length]),(2,.cells .new g2 0 [.str [],.nils,.nils,.nils,.nils,.nils]),(5205,Zwe m.regions.isNil gr m.regions.l.length (flat (m.regions.l.map Zaa))),
  (5305,Zwe m.verts.isNil p.1 m.verts.l.length (flat (m.verts.l.map (Zra .old)))),(5405,Zwe m.ways.isNil p.2 m.ways.l.length (flat (m.ways.l.map (Z6a .old))))]) (λ_=>True) (λK1 hK1=>?_) ?_
 refine Zz4 2 4 [0,1,3,2,4,6,5,7,8,9] [0,1,3,4,2,6,5,7,8,9] [] ⟨λ_=>.top,λj=>if j=2 then .any else if j=5 then .any else .pure⟩ zk hG zk zk zk zk zk zk zk zk ?_ ?_;simp -implicitDefEqProofs only[go_sem,seval,List.getElem?_cons_zero,List.getElem?_cons_succ];refine CallA.inl [(5305,.dead)] zk ?_ ?_;intro p hp;rw[List.mem_singleton]at hp;subst hp;exact zp;refine(Zxl G _ .old m.verts zo).mono ?_;rintro _ H2 ⟨gv,rfl,q2⟩;simp only[List.map_cons,List.map_nil,q2];simp -implicitDefEqProofs only[go_sem,seval,Z4a,List.getElem?_cons_zero,List.getElem?_cons_succ];refine CallA.inl [(5405,.dead)] zk ?_ ?_;intro p hp;rw[List.mem_singleton]at hp;subst hp;exact zp;refine(Zyl G _ .old m.ways zo).mono ?_;rintro _ H3 ⟨gw,rfl,q3⟩;simp only[List.map_cons,List.map_nil,q3];simp -implicitDefEqProofs only[go_sem,seval,Z4a,List.getElem?_cons_zero,List.getElem?_cons_succ];exact hK1 _ (gv,gw) trivial (Zb zp zp);simp -implicitDefEqProofs only[go_sem,seval,List.getElem?_cons_zero,List.getElem?_cons_succ];refine CallA.inl [(5305,.dead)] zk ?_ ?_;intro p hp;rw[List.mem_singleton]at hp;subst hp;exact zp;refine(Zxl G _ .old m.verts zo).mono ?_;rintro _ H2 ⟨gv,rfl,q2⟩;simp only[List.map_cons,List.map_nil,q2];simp -implicitDefEqProofs only[go_sem,seval,Z4a,List.getElem?_cons_zero,List.getElem?_cons_succ];refine CallA.inl [(5405,.dead)] zk ?_ ?_;intro p hp;rw[List.mem_singleton]at hp;subst hp;exact zp;refine(Zyl G _ .old m.ways zo).mono ?_;rintro _ H3 ⟨gw,rfl,q3⟩;simp only[List.map_cons,List.map_nil,q3];simp -implicitDefEqProofs only[go_sem,seval,Z4a,List.getElem?_cons_zero,List.getElem?_cons_succ];exact hK1 _ (gv,gw) trivial (Zb zp zp)
 rintro⟨gv,gw⟩ _;simp only;refine Z ?_
 refine Zfa m.verts.l.length (λk (LV:List (Bool×VtM))=>st [(1,.ptr 1 g1 0),(2,.ptr 2 g2 0),(27,.int .i64 m.verts.l.length),(28,.int .i64 k)] [(1,.cells .new g1 0 [.str m.name,Za .new 2 Zaa m.vars.cl,Za .new 1 V.str m.events.cl,objV m.regions.isNil 5205 gr 2 m.regions.l.length,objV m.verts.isNil 5305 gv 8 m.verts.l.length,objV m.ways.isNil 5405 gw 8 m.ways.l.length]),(2,.cells .new g2 0 [.str [],.nils,.nils,.nils,.nils,.nils]),(5205,Zwe m.regions.isNil gr m.regions.l.length (flat (m.regions.l.map Zaa))),(5305,Zwe m.verts.isNil gv m.verts.l.length (flat (LV.map Zyj))),(5405,Zwe m.ways.isNil gw m.ways.l.length (flat (m.ways.l.map (Z6a .old))))])
  (λ_ LV=>CpV m LV) 0 (m.verts.l.map λx=>(false,x)) (Nat.zero_le _) ⟨by rw[List.map_map]<;>rfl⟩ (Zb zp (by refine Zs ?_;rw[List.map_map]<;>rfl)) ?_
 intro k LV hk hR L3 hL3
 by_cases hk1:k<m.verts.l.length
 have hlv:=hR.len;have hlt:decide ((k:Int)<(m.verts.l.length:Int))=true:=zT;have hn0:m.verts.l.length≠0:=zo;have hg:=List.getElem?_eq_getElem (l:=LV) (i:=k) zo
 have hdl:(LV[k]'zo).2.defers.l.length<1000000:=by
  have h1:=congrArg (·[k]?) hR.p
  have h2:(LV[k]'zo).2.p=((m.verts.l[k]).p:VP):=by simpa[List.getElem?_map,hg,List.getElem?_eq_getElem hk1]using h1
  have h3:=congrArg (λx:VP=>x.defers.length) h2;have h4:=(hb.vt _ (List.getElem_mem hk1)).2.2;simp only[VtM.p]at h3;omega
 generalize LV[k]'zo=bx at hg hdl;obtain⟨b,x⟩:=bx;have hV:=Zdl (nil:=m.verts.isNil) (o:=5305) (g:=gv) (m:=8) hn0;have hO:∀ cs,Zwe m.verts.isNil gv m.verts.l.length cs=.cells .new gv 0 cs:=λcs=>Zel hn0;have hfl:=Zwa Zii LV;have hpt:=Zjv Zii (j:=6) (v:=Za (if b then .new else .old) 1 V.str x.defers) zd hg rfl;have hst:(flat (LV.map Zyj)).set (k*8+6) (Za .new 1 V.str x.defers.cl)=flat ((LV.set k (true,{ x with defers:=x.defers.cl })).map Zyj):=Zkg Zii zd hg rfl;rw[hlv]at hfl;have hle:k*8+6+1<=m.verts.l.length*8:=zo;have hle2:k*8+6<m.verts.l.length*8:=zo;have w1:IntKind.i64.wrap ((k:Int)+1)=(k:Int)+1:=w64 zo zo;refine Z1f hlt ?_;refine Z1f hlt ?_;refine Zv ⟨λj=>if j=9 then Za .new 1 V.str x.defers.cl else .top,λ_=>.pure⟩ zk hG zk zk ?_;refine Zsf (zi hV (zi hO (zi hpt (zi hst (zi hfl (zi hle (zi hle2 (zi hk1 (zi @Int.natCast_nonneg @Int.ofNat_lt))))))))) ?_;refine⟨⟨by kernel_rfl,?_⟩,?_⟩
 .simp -implicitDefEqProofs only[go_sem,seval,Z1a,List.map_cons,List.map_nil]
  exact(Z5f G _ x.defers hdl).mono λv _ e=>by rw[e];simp -implicitDefEqProofs only[go_sem,seval,Z1a];try rfl
 refine Zf w1 ?_;exact hL3 _ ⟨hk1,LV.set k (true,{ x with defers:=x.defers.cl }),⟨(Zcd _ hg (by simp only[VtM.p,Zlm])).trans hR.p⟩,Zb (zpf hV) (zpf (zi hV hO))⟩;have hke:k=m.verts.l.length:=zo;have hlt:decide ((k:Int)<(m.verts.l.length:Int))=false:=zF;rw[hke]at hlt⊢;refine Zf hlt ?_
 try clear hL3 L3 hlt hke hk1 hk
 have hRv:=hR
 try clear hR
 refine Zfa m.ways.l.length (λk (LW:List (Bool×TrM))=>st [(1,.ptr 1 g1 0),(2,.ptr 2 g2 0),(46,.int .i64 m.ways.l.length),(47,.int .i64 k)] [(1,.cells .new g1 0 [.str m.name,Za .new 2 Zaa m.vars.cl,Za .new 1 V.str m.events.cl,objV m.regions.isNil 5205 gr 2 m.regions.l.length,objV m.verts.isNil 5305 gv 8 m.verts.l.length,objV m.ways.isNil 5405 gw 8 m.ways.l.length]),(2,.cells .new g2 0 [.str [],.nils,.nils,.nils,.nils,.nils]),(5205,Zwe m.regions.isNil gr m.regions.l.length (flat (m.regions.l.map Zaa))),(5305,Zwe m.verts.isNil gv m.verts.l.length (flat (LV.map Zyj))),(5405,Zwe m.ways.isNil gw m.ways.l.length (flat (LW.map Zul)))])
  (λ_ LW=>CpW m LW) 0 (m.ways.l.map λx=>(false,x)) (Nat.zero_le _) ⟨by rw[List.map_map]<;>rfl⟩ (Zb zp (by refine Zs ?_;rw[List.map_map]<;>rfl)) ?_
 intro k LW hk hR L3 hL3
 by_cases hk1:k<m.ways.l.length
 have hlv:=hR.len;have hlt:decide ((k:Int)<(m.ways.l.length:Int))=true:=zT;have hn0:m.ways.l.length≠0:=zo;have hg:=List.getElem?_eq_getElem (l:=LW) (i:=k) zo
 have hdl:(LW[k]'zo).2.triggers.l.length<1000000:=by
  have h1:=congrArg (·[k]?) hR.p
  have h2:(LW[k]'zo).2.p=((m.ways.l[k]).p:WP):=by simpa[List.getElem?_map,hg,List.getElem?_eq_getElem hk1]using h1
  have h3:=congrArg (λx:WP=>x.triggers.length) h2;have h4:=(hb.wy _ (List.getElem_mem hk1)).2;simp only[TrM.p]at h3;omega
 generalize LW[k]'zo=bx at hg hdl;obtain⟨b,x⟩:=bx;have hV:=Zdl (nil:=m.ways.isNil) (o:=5405) (g:=gw) (m:=8) hn0;have hO:∀ cs,Zwe m.ways.isNil gw m.ways.l.length cs=.cells .new gw 0 cs:=λcs=>Zel hn0;have hfl:=Zwa Zki LW;have hpt:=Zjv Zki (j:=3) (v:=Za (if b then .new else .old) 1 V.str x.triggers) zd hg rfl;have hst:(flat (LW.map Zul)).set (k*8+3) (Za .new 1 V.str x.triggers.cl)=flat ((LW.set k (true,{ x with triggers:=x.triggers.cl })).map Zul):=Zkg Zki zd hg rfl;rw[hlv]at hfl;have hle:k*8+3+1<=m.ways.l.length*8:=zo;have hle2:k*8+3<m.ways.l.length*8:=zo;have w1:IntKind.i64.wrap ((k:Int)+1)=(k:Int)+1:=w64 zo zo;refine Z1f hlt ?_;refine Z1f hlt ?_;refine Zv ⟨λj=>if j=9 then Za .new 1 V.str x.triggers.cl else .top,λ_=>.pure⟩ zk hG zk zk ?_;refine Zsf (zi hV (zi hO (zi hpt (zi hst (zi hfl (zi hle (zi hle2 (zi hk1 (zi @Int.natCast_nonneg @Int.ofNat_lt))))))))) ?_;refine⟨⟨by kernel_rfl,?_⟩,?_⟩
 .simp -implicitDefEqProofs only[go_sem,seval,Z1a,List.map_cons,List.map_nil]
  exact(Z5f G _ x.triggers hdl).mono λv _ e=>by rw[e];simp -implicitDefEqProofs only[go_sem,seval,Z1a];try rfl
 refine Zf w1 ?_;exact hL3 _ ⟨hk1,LW.set k (true,{ x with triggers:=x.triggers.cl }),⟨(Zcd _ hg (by simp only[TrM.p,Zlm])).trans hR.p⟩,Zb (zpf hV) (zpf (zi hV hO))⟩;have hke:k=m.ways.l.length:=zo;have hlt:decide ((k:Int)<(m.ways.l.length:Int))=false:=zF;rw[hke]at hlt⊢;refine Zf hlt ?_
 try clear hL3 L3 hlt hke hk1 hk
 exact⟨gr,gv,gw,LV,LW,hRv,hR,rfl,zp,zp,zp⟩
end Go.Hs
end

section
namespace Go.Hs
open Go.Proofs
set_option maxRecDepth 10000
set_option maxHeartbeats 4000000
def VtM.a(x:VtM):VP:={ x.p with name:=[] }
def TrM.a(x:TrM):WP:={ x.p with name:=[] }
theorem Zry{m n:MdM}(h1:n.name=m.name)(h2:n.vars.l=m.vars.l)(h3:n.events.l=m.events.l)(h4:n.regions.l.map (·.2)=m.regions.l.map (·.2))(h5:n.verts.l.map VtM.a=m.verts.l.map VtM.a)(h6:n.ways.l.map TrM.a=m.ways.l.map TrM.a):n.p.anon=m.p.anon:=by
 unfold PM.anon MdM.p;simp only[h1,h2,h3,List.map_map]
 congr 1
 have:=congrArg (List.map λr:Int=>(([]:List UInt8),r)) h4;simpa[List.map_map,Function.comp_def]using this
structure NmV(m:MdM)(L:List (Bool×VtM)):Prop where
 p:L.map (λp=>p.2.a)=m.verts.l.map VtM.a
 nm:∀ p∈L,txR p.2.name
structure NmW(m:MdM)(L:List (Bool×TrM)):Prop where
 p:L.map (λp=>p.2.a)=m.ways.l.map TrM.a
 nm:∀ p∈L,txR p.2.name
structure NmR(m:MdM)(L:List (List UInt8×Int)):Prop where
 p:L.map (·.2)=m.regions.l.map (·.2)
 nm:∀ p∈L,txR p.1
theorem Zri{α β γ : Type}{f : α -> γ}{g : β -> γ}{l:List α}{r:List β}(h:l.map f=r.map g){a : α}(ha:a∈l):∃ b∈r,f a=g b:=by
 have:=List.mem_map_of_mem (f:=f) ha;rw[h]at this;obtain⟨b,hb,e⟩:=List.mem_map.1 this;exact⟨b,hb,e.symm⟩
theorem CpV.nm{m:MdM}{L:List (Bool×VtM)}(h:CpV m L)(hr:MdR m):NmV m L:=by
 refine⟨?_,λp hp=>?_⟩;have:=congrArg (List.map λx:VP=>{ x with name:=[] }) h.p;rw[List.map_map,List.map_map]at this;exact this;obtain⟨x,hx,e⟩:=Zri h.p hp;have e:p.2.name=x.name:=congrArg VP.name e;rw[e];exact(hr.vt.2 x hx).1
theorem CpW.nm{m:MdM}{L:List (Bool×TrM)}(h:CpW m L)(hr:MdR m):NmW m L:=by
 refine⟨?_,λp hp=>?_⟩;have:=congrArg (List.map λx:WP=>{ x with name:=[] }) h.p;rw[List.map_map,List.map_map]at this;exact this;obtain⟨x,hx,e⟩:=Zri h.p hp;have e:p.2.name=x.name:=congrArg WP.name e;rw[e];exact(hr.wy.2 x hx).1
theorem NmV.len{m:MdM}{L:List (Bool×VtM)}(h:NmV m L):L.length=m.verts.l.length:=by
 have:=congrArg List.length h.p;rwa [List.length_map,List.length_map]at this
theorem NmW.len{m:MdM}{L:List (Bool×TrM)}(h:NmW m L):L.length=m.ways.l.length:=by
 have:=congrArg List.length h.p;rwa [List.length_map,List.length_map]at this
theorem NmR.len{m:MdM}{L:List (List UInt8×Int)}(h:NmR m L):L.length=m.regions.l.length:=by
 have:=congrArg List.length h.p;rwa [List.length_map,List.length_map]at this
theorem Zv2{m n:PM}(h:n.anon=m.anon){bd:List (List UInt8)->List (List UInt8)->List UInt8->Bool}{gd:List (List UInt8)->List UInt8->Int}(h1:(m.checkW bd gd).2=0)(h2:(n.checkW bd gd).2=0):(n.checkW bd gd).1=(m.checkW bd gd).1:=by
 have key:∀ x:PM,(x.checkW bd gd).2=0->(x.checkW bd gd).1=x.anon.badL bd gd 15:=λx hx=>by
  rw[PM.anon_badL];unfold PM.checkW at hx⊢
  by_cases q:(x.rightP).2.2≠0
  rw[if_pos q]at hx;exact absurd hx q;rw[if_neg q]
 rw[key n h2,key m h1,h]
theorem Zd8{α β : Type}(c:Col)(n:Nat)(f : β -> V)(nil:Bool)(L:List (α × β)):Za c n (λp : α × β => f p.2) (Z7y nil L)=Za c n f (Z7y nil (L.map (·.2))):=by
 unfold Z7y;rw[List.length_map]
 split
 rfl
 show V.slice _ _ _ _=V.slice _ _ _ _
 rw[List.map_map]<;>rfl
def nmM(m:MdM)(LR:List (List UInt8×Int))(LV:List (Bool×VtM))(LW:List (Bool×TrM)):MdM:=
 ⟨m.name,m.vars.cl,m.events.cl,Z7y m.regions.isNil LR,Z7y m.verts.isNil (LV.map (·.2)),Z7y m.ways.isNil (LW.map (·.2))⟩
theorem nm_r{m:MdM}{LR:List (List UInt8×Int)}{LV:List (Bool×VtM)}{LW:List (Bool×TrM)}(hR:NmR m LR)(hV:NmV m LV)(hW:NmW m LW)(hr:MdR m):MdR (nmM m LR LV LW):=by
 refine⟨hr.nm,?_,?_,?_,?_,?_⟩<;>simp only[nmM,Zlm,Zv5,List.length_map]
 exact hr.var;exact hr.ev;exact⟨by rw[hR.len];exact hr.rg.1,hR.nm⟩;refine⟨by rw[hV.len];exact hr.vt.1,λy hy=>?_⟩;obtain⟨p,hp,rfl⟩:=List.mem_map.1 hy;obtain⟨x,hx,e⟩:=Zri hV.p hp;have q:=hr.vt.2 x hx;have e1:p.2.entry=x.entry:=congrArg VP.entry e;have e2:p.2.exit=x.exit:=congrArg VP.exit e;have e3:p.2.sub=x.sub:=congrArg VP.sub e;have e4:p.2.defers.l=x.defers.l:=congrArg VP.defers e;rw[e1,e2,e3,e4];exact⟨hV.nm p hp,q.2⟩;refine⟨by rw[hW.len];exact hr.wy.1,λy hy=>?_⟩;obtain⟨p,hp,rfl⟩:=List.mem_map.1 hy;obtain⟨x,hx,e⟩:=Zri hW.p hp;have q:=hr.wy.2 x hx;have e1:p.2.guard=x.guard:=congrArg WP.guard e;have e2:p.2.effect=x.effect:=congrArg WP.effect e;have e4:p.2.triggers.l=x.triggers.l:=congrArg WP.triggers e;rw[e1,e2,e4];exact⟨hW.nm p hp,q.2⟩
theorem nm_f{m:MdM}{LR:List (List UInt8×Int)}{LV:List (Bool×VtM)}{LW:List (Bool×TrM)}(hR:NmR m LR)(hV:NmV m LV)(hW:NmW m LW)(hf:FewM m):FewM (nmM m LR LV LW):=by
 refine⟨?_,?_,?_,?_,?_,?_,?_⟩<;>simp only[nmM,Zlm,Zv5,List.length_map]
 exact hf.nv;exact hf.ne;rw[hR.len];exact hf.nr;rw[hV.len];exact hf.nx;rw[hW.len];exact hf.nw;intro y hy;obtain⟨p,hp,rfl⟩:=List.mem_map.1 hy;obtain⟨x,hx,e⟩:=Zri hV.p hp;have e1:p.2.entry=x.entry:=congrArg VP.entry e;have e2:p.2.exit=x.exit:=congrArg VP.exit e;have e4:p.2.defers.l=x.defers.l:=congrArg VP.defers e;rw[e1,e2,e4];exact hf.vt x hx;intro y hy;obtain⟨p,hp,rfl⟩:=List.mem_map.1 hy;obtain⟨x,hx,e⟩:=Zri hW.p hp;have e1:p.2.guard=x.guard:=congrArg WP.guard e;have e2:p.2.effect=x.effect:=congrArg WP.effect e;have e4:p.2.triggers.l=x.triggers.l:=congrArg WP.triggers e;rw[e1,e2,e4];exact hf.wy x hx
theorem nm_anon{m:MdM}{LR:List (List UInt8×Int)}{LV:List (Bool×VtM)}{LW:List (Bool×TrM)}(hR:NmR m LR)(hV:NmV m LV)(hW:NmW m LW):(nmM m LR LV LW).p.anon=m.p.anon:=by
 refine Zry rfl ?_ ?_ ?_ ?_ ?_<;>simp only[nmM,Zlm,Zv5,List.map_map]
 exact hR.p;exact hV.p;exact hW.p
theorem Zaca(G:Nat->V)(hE:GExp G)(m:MdM)(hr:MdR m)(a b:List UInt8):
  Spec Tryz.prog G 5 [Z3 .old .old m,.str a,.str b] Zk (λv _=>v=.bool true):=by
 have hG:=hE.ok;have hW:=Z2p G hE;refine Zo 0 129 [.tmp 6] Tryz.func5 λX=>?_;simp only[Zi];refine Z ?_;intro g3;refine AW.weak (Zx (λo=>o==3) (l:=[(1,.str a),(2,.str b),(3,.view .new (Z3 .old .old m))]) (m:=[]) ?_ trivial) ?_;refine Zs ?_;exact⟨Fz.same _,Fz.same _,Fz.ptr (v:=Z3 .old .old m) (c:=.new) (fz:=0) zp zp⟩;refine Zf Zi ?_;refine Ze hG ?_ (s:=Zt6 G hG .old .old m hr);rintro _ ⟨b0,rfl,hb⟩
 cases b0 with
 |false=>
  refine Zg Zi ?_;refine Zc hG ?_ (s:=hW);exact Zr
 |true=>
 have hf:=hb rfl;have hB:=hf.b hr;have n3:=hf.nr;have n4:=hf.nx;have n5:=hf.nw;have w1:IntKind.i64.wrap ((m.ways.l.length:Int)+(m.verts.l.length:Int))=(m.ways.l.length:Int)+(m.verts.l.length:Int):=w64 zo zo;have w2:IntKind.i64.wrap ((m.ways.l.length:Int)+(m.verts.l.length:Int)+(m.regions.l.length:Int))=(m.ways.l.length:Int)+(m.verts.l.length:Int)+(m.regions.l.length:Int):=w64 zo zo
 by_cases hs:m.ways.l.length+m.verts.l.length+m.regions.l.length>120
 have q:decide ((m.ways.l.length:Int)+(m.verts.l.length:Int)+(m.regions.l.length:Int)>120)=true:=zT;refine Zg (zi w1 (zi w2 (zi q Zi))) ?_;refine Zc hG ?_ (s:=hW);exact Zr;have q1:decide ((m.ways.l.length:Int)+(m.verts.l.length:Int)+(m.regions.l.length:Int)>120)=false:=zF
 by_cases ha1:a.length>100
 have q:decide ((a.length:Int)>100)=true:=zT;refine Zg (zi w1 (zi w2 (zi q1 (zi q Zi)))) ?_;refine Zc hG ?_ (s:=hW);exact Zr;have q2:decide ((a.length:Int)>100)=false:=zF
 by_cases hb1:b.length>100
 have q:decide ((b.length:Int)>100)=true:=zT;refine Zg (zi w1 (zi w2 (zi q1 (zi q2 (zi q Zi))))) ?_;refine Zc hG ?_ (s:=hW);exact Zr;have q3:decide ((b.length:Int)>100)=false:=zF
 have ha:txR a:=by unfold txR;omega
 have hbn:txR b:=by unfold txR;omega
 refine Zg (zi w1 (zi w2 (zi q1 (zi q2 (zi q3 Zi))))) ?_;refine CallA.inl [(5205,.dead),(5305,.dead),(5405,.dead)] zk (by intro p hp;simp only[List.mem_cons,List.not_mem_nil,or_false]at hp;rcases hp with rfl|rfl|rfl<;>rfl) ?_;refine(Z41 G hG .old m hB).mono ?_;rintro _ H' ⟨gr,gv,gw,LV,LW,hLV,hLW,rfl,p2,p5,p7⟩;simp only[List.map_cons,List.map_nil,p2,p5,p7];refine Zu ?_;intro g7;have hV1:=hLV.nm hr;have hW1:=hLW.nm hr;have hR1:NmR m m.regions.l:=⟨rfl,hr.rg.2⟩
 try clear hLV hLW p2 p5 p7
 refine Z ?_;refine Zfa m.verts.l.length (λk (LV:List (Bool×VtM))=>st [(1,.str a),(2,.str b),(3,.view .new (Z3 .old .old m)),(7,.ptr 7 g7 0),(8,.int .i64 k)] [(7,.cells .new g7 0 [.str m.name,Za .new 2 Zaa m.vars.cl,Za .new 1 V.str m.events.cl,objV m.regions.isNil 5205 gr 2 m.regions.l.length,objV m.verts.isNil 5305 gv 8 m.verts.l.length,objV m.ways.isNil 5405 gw 8 m.ways.l.length]),(5205,Zwe m.regions.isNil gr m.regions.l.length (flat (m.regions.l.map Zaa))),(5305,Zwe m.verts.isNil gv m.verts.l.length (flat (LV.map Zyj))),(5405,Zwe m.ways.isNil gw m.ways.l.length (flat (LW.map Zul)))]) (λ_ LV=>NmV m LV) 0 LV (Nat.zero_le _) hV1 (Zb (zpf Zi) zp) ?_
 try clear hV1 LV
 intro k LV hk hR L3 hL3
 by_cases hk1:k<m.verts.l.length
 have hlv:=hR.len;have hlt:decide ((k:Int)<(m.verts.l.length:Int))=true:=zT;have hn0:m.verts.l.length≠0:=zo;have hg:=List.getElem?_eq_getElem (l:=LV) (i:=k) zo;generalize LV[k]'zo=bx at hg;obtain⟨bo,x⟩:=bx;have hV:=Zdl (nil:=m.verts.isNil) (o:=5305) (g:=gv) (m:=8) hn0;have hO:∀ cs,Zwe m.verts.isNil gv m.verts.l.length cs=.cells .new gv 0 cs:=λcs=>Zel hn0;have hfl:=Zwa Zii LV;rw[hlv]at hfl;have hle:k*8+1<=m.verts.l.length*8:=zo;have hle2:k*8<m.verts.l.length*8:=zo;have w1:IntKind.i64.wrap ((k:Int)+1)=(k:Int)+1:=w64 zo zo;have hst:∀ nm:List UInt8,(flat (LV.map Zyj)).set (k*8) (.str nm)=flat ((LV.set k (bo,{ x with name:=nm })).map Zyj):=λnm=>Zkg (j:=0) Zii zd hg rfl;have hsp:∀ nm:List UInt8,txR nm->NmV m (LV.set k (bo,{ x with name:=nm })):=λnm hn=>⟨(Zcd _ hg (y:=(bo,{ x with name:=nm })) rfl).trans hR.p,Z2v hR.nm hn⟩;refine Z1f hlt ?_
 by_cases hm:k%2=0
 have rm:Int.tmod (k:Int) 2=0:=by rw[Int.tmod_eq_emod_of_nonneg zo];omega
 refine ZTf (zi rm (zi hV (zi hO (zi hst (zi hfl (zi hle (zi hle2 (zi hk1 (zi (Nat.zero_le (k*8)) (zi @Int.natCast_nonneg @Int.ofNat_lt)))))))))) hG ?_;intro g58;refine Zf w1 ?_;exact hL3 _ ⟨hk1,_,hsp a ha,Zb (zpf hV) (zpf (zi hV hO))⟩
 have rm:Int.tmod (k:Int) 2=1:=by rw[Int.tmod_eq_emod_of_nonneg zo];omega
 refine ZTf (zi rm (zi hV (zi hO (zi hst (zi hfl (zi hle (zi hle2 (zi hk1 (zi (Nat.zero_le (k*8)) (zi @Int.natCast_nonneg @Int.ofNat_lt)))))))))) hG ?_;intro g58;refine Zf w1 ?_;exact hL3 _ ⟨hk1,_,hsp b hbn,Zb (zpf hV) (zpf (zi hV hO))⟩;have hV1:=hR
 try clear hR
 have hke:k=m.verts.l.length:=zo;have hlt:decide ((k:Int)<(m.verts.l.length:Int))=false:=zF;rw[hke]at hlt⊢;refine Zf (zi hlt Zi) ?_
 try clear hL3 L3 hlt hke hk1 hk
 refine Zfa m.regions.l.length (λk (LR:List (List UInt8×Int))=>st [(1,.str a),(2,.str b),(3,.view .new (Z3 .old .old m)),(7,.ptr 7 g7 0),(9,.int .i64 k)] [(7,.cells .new g7 0 [.str m.name,Za .new 2 Zaa m.vars.cl,Za .new 1 V.str m.events.cl,objV m.regions.isNil 5205 gr 2 m.regions.l.length,objV m.verts.isNil 5305 gv 8 m.verts.l.length,objV m.ways.isNil 5405 gw 8 m.ways.l.length]),(5205,Zwe m.regions.isNil gr m.regions.l.length (flat (LR.map Zaa))),(5305,Zwe m.verts.isNil gv m.verts.l.length (flat (LV.map Zyj))),(5405,Zwe m.ways.isNil gw m.ways.l.length (flat (LW.map Zul)))]) (λ_ LR=>NmR m LR) 0 m.regions.l (Nat.zero_le _) hR1 (Zb zp zp) ?_
 try clear hR1
 intro k LR hk hR L3 hL3
 by_cases hk1:k<m.regions.l.length
 have hlv:=hR.len;have hlt:decide ((k:Int)<(m.regions.l.length:Int))=true:=zT;have hn0:m.regions.l.length≠0:=zo;have hg:=List.getElem?_eq_getElem (l:=LR) (i:=k) zo;generalize LR[k]'zo=bx at hg;obtain⟨bo,x⟩:=bx;have hV:=Zdl (nil:=m.regions.isNil) (o:=5205) (g:=gr) (m:=2) hn0;have hO:∀ cs,Zwe m.regions.isNil gr m.regions.l.length cs=.cells .new gr 0 cs:=λcs=>Zel hn0;have hfl:=Zwa Zhd LR;rw[hlv]at hfl;have hle:k*2+1<=m.regions.l.length*2:=zo;have hle2:k*2<m.regions.l.length*2:=zo;have w1:IntKind.i64.wrap ((k:Int)+1)=(k:Int)+1:=w64 zo zo;have hst:(flat (LR.map Zaa)).set (k*2) (.str b)=flat ((LR.set k (b,x)).map Zaa):=Zkg (j:=0) Zhd zd hg rfl;refine Zf (zi hlt (zi hV (zi hO (zi hst (zi hfl (zi hle (zi hle2 (zi hk1 (zi w1 (zi (Nat.zero_le (k*2)) (zi @Int.natCast_nonneg @Int.ofNat_lt))))))))))) ?_;exact hL3 _ ⟨hk1,LR.set k (b,x),⟨(Zcd _ hg (y:=(b,x)) rfl).trans hR.p,Z2v hR.nm hbn⟩,Zb (zpf hV) (zpf (zi hV hO))⟩;have hR1:=hR
 try clear hR
 have hke:k=m.regions.l.length:=zo;have hlt:decide ((k:Int)<(m.regions.l.length:Int))=false:=zF;rw[hke]at hlt⊢;refine Zf (zi hlt Zi) ?_
 try clear hL3 L3 hlt hke hk1 hk
 refine Zfa m.ways.l.length (λk (LW:List (Bool×TrM))=>st [(1,.str a),(2,.str b),(3,.view .new (Z3 .old .old m)),(7,.ptr 7 g7 0),(10,.int .i64 k)] [(7,.cells .new g7 0 [.str m.name,Za .new 2 Zaa m.vars.cl,Za .new 1 V.str m.events.cl,objV m.regions.isNil 5205 gr 2 m.regions.l.length,objV m.verts.isNil 5305 gv 8 m.verts.l.length,objV m.ways.isNil 5405 gw 8 m.ways.l.length]),(5205,Zwe m.regions.isNil gr m.regions.l.length (flat (LR.map Zaa))),(5305,Zwe m.verts.isNil gv m.verts.l.length (flat (LV.map Zyj))),(5405,Zwe m.ways.isNil gw m.ways.l.length (flat (LW.map Zul)))]) (λ_ LW=>NmW m LW) 0 LW (Nat.zero_le _) hW1 (Zb zp zp) ?_
 try clear hW1 LW
 intro k LW hk hR L3 hL3
 by_cases hk1:k<m.ways.l.length
 have hlv:=hR.len;have hlt:decide ((k:Int)<(m.ways.l.length:Int))=true:=zT;have hn0:m.ways.l.length≠0:=zo;have hg:=List.getElem?_eq_getElem (l:=LW) (i:=k) zo;generalize LW[k]'zo=bx at hg;obtain⟨bo,x⟩:=bx;have hV:=Zdl (nil:=m.ways.isNil) (o:=5405) (g:=gw) (m:=8) hn0;have hO:∀ cs,Zwe m.ways.isNil gw m.ways.l.length cs=.cells .new gw 0 cs:=λcs=>Zel hn0;have hfl:=Zwa Zki LW;rw[hlv]at hfl;have hle:k*8+1<=m.ways.l.length*8:=zo;have hle2:k*8<m.ways.l.length*8:=zo;have w1:IntKind.i64.wrap ((k:Int)+1)=(k:Int)+1:=w64 zo zo;have hst:(flat (LW.map Zul)).set (k*8) (.str a)=flat ((LW.set k (bo,{ x with name:=a })).map Zul):=Zkg (j:=0) Zki zd hg rfl;refine Zf (zi hlt (zi hV (zi hO (zi hst (zi hfl (zi hle (zi hle2 (zi hk1 (zi w1 (zi (Nat.zero_le (k*8)) (zi @Int.natCast_nonneg @Int.ofNat_lt))))))))))) ?_;exact hL3 _ ⟨hk1,LW.set k (bo,{ x with name:=a }),⟨(Zcd _ hg (y:=(bo,{ x with name:=a })) rfl).trans hR.p,Z2v hR.nm ha⟩,Zb (zpf hV) (zpf (zi hV hO))⟩;have hW1:=hR
 try clear hR
 have hke:k=m.ways.l.length:=zo;have hlt:decide ((k:Int)<(m.ways.l.length:Int))=false:=zF;rw[hke]at hlt⊢;refine Zf (zi hlt Zi) ?_
 try clear hL3 L3 hlt hke hk1 hk
 have hr2:=nm_r hR1 hV1 hW1 hr;have hf2:=nm_f hR1 hV1 hW1 hf;have han:=nm_anon hR1 hV1 hW1;have hB2:=hf2.b hr2;have hck:=λc d=>Ztd G hE c d m hB hf.t;have hcn:=λc d=>Ztd G hE c d (nmM m LR LV LW) hB2 hf2.t;have hsm:=Zv2 han (bd:=Z9a) (gd:=Zoa);have hWl:(m.p.checkW Z9a Zoa).1.length<=100000:=m.p.checkW_len (by rw[m.nv];omega) (by rw[m.nw];omega) (by show m.regions.l.length<=_;omega)
 have rdR:∀ H:Heap,H 5205=Zwe m.regions.isNil gr m.regions.l.length (flat (LR.map Zaa))->Rd H (objV m.regions.isNil 5205 gr 2 m.regions.l.length) (Za .old 2 Zaa (Z7y m.regions.isNil LR)):=λH h=>by
  rw[<- hR1.len]at h⊢;exact Zqy h Zhd Z0m (λ_=>rfl)
 have rdV:∀ H:Heap,H 5305=Zwe m.verts.isNil gv m.verts.l.length (flat (LV.map Zyj))->Rd H (objV m.verts.isNil 5305 gv 8 m.verts.l.length) (Za .old 8 (Zra .old) (Z7y m.verts.isNil (LV.map (·.2)))):=λH h=>by
  rw[<- hV1.len]at h⊢;rw[<- Zd8];exact Zqy h Zii (λx=>Zfv _ _) (λx=>by obtain⟨b,x⟩:=x;cases b<;>exact Zmd _ _ _)
 have rdW:∀ H:Heap,H 5405=Zwe m.ways.isNil gw m.ways.l.length (flat (LW.map Zul))->Rd H (objV m.ways.isNil 5405 gw 8 m.ways.l.length) (Za .old 8 (Z6a .old) (Z7y m.ways.isNil (LW.map (·.2)))):=λH h=>by
  rw[<- hW1.len]at h⊢;rw[<- Zd8];exact Zqy h Zki (λx=>Zgv _ _) (λx=>by obtain⟨b,x⟩:=x;cases b<;>exact Znd _ _ _)
 generalize m.p.checkW Z9a Zoa=p1 at hck hsm hWl;obtain⟨W1,e1⟩:=p1;refine Zc hG ?_ (s:=hck _ _);refine Zf Zi ?_;refine Z6c hG [Z3 .old .old (nmM m LR LV LW)] zk ⟨Rd.agg ⟨Zka (.str _) rfl,Zka (Zgd Z0m _) (Zte _ _ _),Zka (Z6o _ _) (Z1a _ _ _ _),rdR _ zp,rdV _ zp,rdW _ zp,trivial⟩,trivial⟩ ((hcn .old .old).mono ?_);rintro _ _ rfl;refine⟨Zxh _ _,?_⟩;generalize(nmM m LR LV LW).p.checkW Z9a Zoa=p2 at hsm;obtain⟨W2,e2⟩:=p2;simp only at hsm hWl
 by_cases h1:e1=0
 rotate_left;have u1:(e1 != 0)=true:=zu h1;refine Zg u1 ?_;refine Zc hG ?_ (s:=hW);exact Zr
 by_cases h2:e2=0
 rotate_left;have u1:(e1 != 0)=false:=zu h1;have u2:(e2 != 0)=true:=zu h2;refine Zg (zi u1 u2) ?_;refine Zc hG ?_ (s:=hW);exact Zr;have hee:=hsm h1 h2;subst hee;subst h1;subst h2;have u3:((W2.length:Int) != (W2.length:Int))=false:=zS;refine Zg (zi u3 (@Zl (Nat×Int) W2)) ?_;refine Zfa W2.length (λk (_:Unit)=>st [(11,Za .new 2 Zvc (Zt W2)),(13,Za .new 2 Zvc (Zt W2)),(15,.int .i64 k)] []) (λ_ _=>True) 0 () (Nat.zero_le _) trivial (Zb zp zp) ?_;intro k _ hk _ L3 hL3;have hgl := @Zl (Nat×Int) W2
 by_cases hk1:k<W2.length
 have hlt:decide ((k:Int)<(W2.length:Int))=true:=zT;have hg:=List.getElem?_eq_getElem hk1;generalize W2[k]=p at hg;have w1:IntKind.i64.wrap ((k:Int)+1)=(k:Int)+1:=w64 zo zo;have u4:((p.1:Int)==(p.1:Int))=true:=zS;have u5:(p.2==p.2)=true:=zS;refine Z1f (zi hgl hlt) ?_;refine ZTf (zi hgl (zi hg (zi u4 (zi u5 (zi Z9o (zi hk1 (zi @Int.natCast_nonneg @Int.ofNat_lt))))))) hG ?_;refine Zf w1 ?_;exact hL3 _ ⟨hk1,(),trivial,Zb zp zp⟩;have hke:k=W2.length:=zo;have hlt:decide ((k:Int)<(W2.length:Int))=false:=zF;rw[hke]at hlt⊢;refine Zf (zi hgl hlt) ?_;refine Zc hG ?_ (s:=hW);exact Zr
end Go.Hs
end

section
namespace Go.Proofs.YtegjlbpnpiigkaaGreatDoor
open Go.RowKit Go.Hs
set_option maxRecDepth 100000
def Ztf:List (String × DataW Unit):=[("math/bits.deBruijn32tab",Rows.laid_math_bits_deBruijn32tab),("math/bits.deBruijn64tab",Rows.laid_math_bits_deBruijn64tab),("internal/strconv.uint64pow10",Rows.laid_internal_strconv_uint64pow10),("unicode/utf8.acceptRanges",Rows.laid_unicode_utf8_acceptRanges),("strconv.ErrRange",Rows.laid_strconv_ErrRange),("strconv.ErrSyntax",Rows.laid_strconv_ErrSyntax),("hopscotch/lex.signs",Rows.laid_hopscotch_lex_signs),("unicode/utf8.first",Rows.laid_unicode_utf8_first)]
noncomputable def low:Nat:=(World.holding Tryz.prog default ⟨#[],#[],[]⟩).heap.size
def b32:List Int:=[0,1,28,2,29,14,24,3,30,22,20,15,25,17,4,8,31,27,13,23,21,19,16,7,26,12,18,6,11,5,10,9]
def b64:List Int:=0::1::56::2::57::49::28::3::61::58::42::50::38::29::17::4::62::47::59::36::45::43::51::22::53::39::33::30::24::18::12::5::63::55::48::27::60::41::37::16::46::35::44::21::52::32::23::11::54::26::40::15::34::20::31::10::25::14::19::9::13::8::7::6::[]
def acR:List Int:=[128,191,160,191,128,159,144,191,128,143]++List.replicate 22 0
def errR:ByteArray:={ data := #[118,97,108,117,101,32,111,117,116,32,111,102,32,114,97,110,103,101] }
def errS:ByteArray:={ data := #[105,110,118,97,108,105,100,32,115,121,110,116,97,120] }
def Z9c(cs:Array Value):Obj->Obj
 |.cells _ t frozen=>.cells cs t frozen
 |o=>o
noncomputable def laidWorld (os:Os):World:=
 let w0:=World.holding Tryz.prog os ⟨#[.cells #[.string errR] 428,.cells #[.string errS] 428],#[],[]⟩
 { w0 with heap:=(((((((w0.heap.modify 2 (Z9c #[.iface 426 (.pointer (some ⟨low,0,none⟩))])).modify 5 (Z9c #[.iface 426 (.pointer (some ⟨low+1,0,none⟩))])).modify 6
   (Z9c (Lib.pow10Tab.map (Value.int .u64)).toArray)).modify 7 (Z9c (b32.map (Value.int .u8)).toArray)).modify 8 (Z9c (b64.map (Value.int .u8)).toArray)).modify 4 (Z9c (acR.map (Value.int .u8)).toArray)).modify
   0 (Z9c (signsL.map λs=>Value.string ⟨s.toArray⟩).toArray)).modify 3 (Z9c (Pinned.utf8FirstZ.map fun(n:Nat)=>Value.int .u8 (n:Int)).toArray) }
theorem Z2o(os:Os)(args:Array Value):laidMet Tryz.prog Ztf ((laidWorld os).forCall (λ_ _=>0) ⟨#[],args,[]⟩).memory:=
 laidMet_of_run' 8 (by kernel_rfl) (by kernel_rfl)
end Go.Proofs.YtegjlbpnpiigkaaGreatDoor
end

section
namespace Go.Proofs.YtegjlbpnpiigkaaGreatDoor
open Go.RowKit Go.Hs
set_option maxRecDepth 100000
theorem Zna{P:Program}{W:World}{x:String×DataW Unit}{r:List (String×DataW Unit)}(h:laidMet P (x::r) W):laidMet P r W:=by
 obtain⟨n,d⟩:=x;obtain⟨ps,⟨g0,t0,cs0,f0,p0,q0,hg0,ht0,hv0,hd0,hq,e0⟩,hnd,hrows⟩:=h;subst e0;exact⟨q0,hq,(List.nodup_append.1 hnd).2.1,λb off hm=>hrows b off (List.mem_append.2 (.inr hm))⟩
noncomputable def gE (m:Int):Nat->V:=λg=>if g=2 then .view .old (.iface 426 (.view .old (.agg [])))else if g=6 then .view .old (.agg (Lib.pow10Tab.map (V.int .u64)))
 else if g=0 then .view .old (.agg (signsL.map V.str))else if g=1 then .view .old (.int .i64 m)else .top
theorem Z8k(f:Col->Col):∀ l:List Int,Zma f (l.map (V.int .u64))=l.map (V.int .u64)
 |[]=>rfl
 |x::r=>by simp only[List.map_cons,Zma];rw[Z8k f r]<;>rfl
theorem Z7k(f:Col->Col):∀ l:List (List UInt8),Zma f (l.map V.str)=l.map V.str
 |[]=>rfl
 |x::r=>by simp only[List.map_cons,Zma];rw[Z7k f r]<;>rfl
theorem gE_ok(m:Int):GExp (gE m) where
 ok:=λg=>by
  unfold gE
  split
  exact⟨rfl,.view _ _ λx hx=>by simp[V.cells]at hx;subst hx;exact .iface _ _ (.view _ _ λx hx=>by simp[V.cells]at hx)⟩
  split
  refine⟨by simp only[V.recol,Col.ent,Z8k],.view _ _ λx hx=>?_⟩;obtain⟨n,_,rfl⟩:=List.mem_map.1 hx;exact .int _ _
  split
  refine⟨by simp only[V.recol,Col.ent,Z7k],.view _ _ λx hx=>?_⟩;obtain⟨n,_,rfl⟩:=List.mem_map.1 hx;exact .str _
  split
  exact⟨rfl,.view _ _ λx hx=>by simp[V.cells]at hx;subst hx;exact .int _ _⟩;exact⟨rfl,.top⟩
 er:=⟨_,_,_,rfl⟩
 tab:=⟨_,rfl⟩
 sg:=⟨_,rfl⟩
 ml:=⟨_,m,rfl⟩
theorem gER:Tryz.prog.globalNamed "strconv.ErrRange" = some 2:=by kernel_rfl
theorem gERType:(Tryz.prog.globals[2]?).map (·.type)=some 379:=by kernel_rfl
theorem Zpca:Tryz.prog.cellsOf 428=1:=by kernel_rfl
theorem Ztda:Tryz.prog.cellsOf 9=1:=by kernel_rfl
theorem star : "*" ++ "errors.errorString" = "*errors.errorString" := by decide
theorem row109 (u:TypeId) (h:Tryz.prog.typeName? 3 u=some "*errors.errorString"):u=426 :=
 typeName_ptr_named (nm := "errors.errorString") (by rw [star];kernel_rfl) (by kernel_rfl) (by decide) u (by rw [star];exact h)
theorem gTab:Tryz.prog.globalNamed "internal/strconv.uint64pow10" = some 6:=by kernel_rfl
theorem Zlca:∃ t n,(Tryz.prog.globals[6]?).map (·.type)=some t/\Tryz.prog.underlying t=some (.array n 265)/\Tryz.prog.cellsOf t=n/\n=20:=by
 refine⟨(((Tryz.prog.globals[6]?).map (·.type)).getD 0),20,by kernel_rfl,by kernel_rfl,by kernel_rfl,rfl⟩
theorem Z8ba {W:World} (h:laidMet Tryz.prog Ztf W):Lib.TabIs Tryz.prog W "internal/strconv.uint64pow10" .u64 Lib.pow10Tab:=by
 obtain⟨t,n,h1,h2,h3,rfl⟩:=Zlca
 have e:(Rows.laid_internal_strconv_uint64pow10:DataW Unit)=Lib.tabData .u64 Lib.pow10Tab:=by rfl
 have h4:=Zna (Zna h);rw[e]at h4;exact Lib.tabIs_of_head gTab h1 h2 Tryz.underlying265 (by kernel_rfl) h3 h4
theorem Z9ba{W:World}(h:laidMet Tryz.prog Ztf W):∃ b off,W.cell? ⟨2,0,none⟩=some (.iface 426 (.pointer (some ⟨b,off,none⟩))):=by
 obtain⟨a,s,h1,h2,_,_⟩:=laid_sentinel (Zna (Zna (Zna (Zna h)))) gER gERType Tryz.underlying379 row109 Tryz.underlying426 Tryz.underlying428 rfl rfl Tryz.underlying9 Zpca Ztda;have h0:=World.var?_cell gER h1 0;have hs:=World.cell?_spot h2;obtain⟨b,off,sp⟩:=a;have hs:sp=none:=hs;subst hs;exact⟨b,off,by simpa using h0⟩
def Zju{H:Type}(zs:List (List UInt8)):DataW H:=.agg (zs.map λz=>.lit (.string z))
theorem Zep{H:Type}{enc:TypeId×Value->H}{P:Program}{w:World}{base:Nat}{sp:Nat->Bool}{held:Bool}{fuel:Nat}{t e:TypeId}{n:Nat}{cs:List Value}{zs:List (List UInt8)}{p:List MemPlace}
  (ht:P.underlying t=some (.array n e)) (he:P.underlying e=some .string) (hce:P.cellsOf e=1) (hct:P.cellsOf t=n)
  (h:DataW.trod enc P w base sp held fuel t cs=some (Zju zs,p)):cs.length=zs.length/\∀ i (hi:i<zs.length),∃ s:ByteArray,cs[i]?=some (.string s)/\s.data.toList=zs[i]:=by
 cases fuel with
 |zero=>simp[DataW.trod]at h
 |succ fuel=>
  simp only[DataW.trod,ht,hce,hct,Nat.mul_one]at h
  split at h
  rename_i hl;obtain⟨xs,hm,hx⟩:=Option.map_eq_some_iff.1 h
  have hxs:xs.map (·.1)=zs.map λz=>(DataW.lit (.string z):DataW H):=by
   have:=congrArg Prod.fst hx;simpa[Zju]using this
  have hxl:xs.length=n:=by simpa using Lib.mapM_length hm
  have hzl:zs.length=n:=by
   have:=congrArg List.length hxs;simp at this;omega
  refine⟨by omega,λi hi=>?_⟩
  have hin:i<n:=by omega
  obtain⟨b,hb,hf⟩:=Lib.mapM_at hm i i (by simp[hin]);obtain⟨z,hc,rfl,_⟩:=DataW.trod_string he hf
  have h1:cs[i]?=some (.string z):=by
   have:=congrArg (·[0]?) hc;simpa[List.getElem?_take,List.getElem?_drop]using this
  have h2:(xs.map (·.1))[i]?=some (DataW.lit (.string z.data.toList):DataW H):=by simp[hb]
  rw[hxs,List.getElem?_map,List.getElem?_eq_getElem hi]at h2;refine⟨z,h1,?_⟩;have h3:(DataW.lit (.string zs[i]):DataW H)=.lit (.string z.data.toList):=Option.some.inj h2
  injection h3 with h3
  injection h3 with h3
  exact h3.symm;cases h
theorem gSg:Tryz.prog.globalNamed "hopscotch/lex.signs" = some 0:=by kernel_rfl
theorem gSgType:(Tryz.prog.globals[0]?).map (·.type)=some 280:=by kernel_rfl
theorem Zb2 {W:World} (h:laidMet Tryz.prog Ztf W):∃ cs:Array Value,W.var? Tryz.prog "hopscotch/lex.signs" = some cs∧cs.size=14∧∀ i (hi:i<signsL.length),∃ s:ByteArray,cs[i]? = some (.string s)∧s.data.toList=signsL[i]:=by
 have e:(Rows.laid_hopscotch_lex_signs:DataW Unit)=Zju signsL:=by rfl
 have h4:=Zna (Zna (Zna (Zna (Zna (Zna h)))));rw[e]at h4;obtain⟨ps,⟨g',t',cs,fuel,p,q,hg',ht',hvar,hd,_,_⟩,_⟩:=h4;obtain rfl:=Option.some.inj (gSg.symm.trans hg');obtain rfl:=Option.some.inj (gSgType.symm.trans ht');obtain⟨h1,h2⟩:=Zep Tryz.underlying280 Tryz.underlying9 Ztda (by kernel_rfl) hd;refine⟨_,hvar,(by simpa using h1:cs.size=signsL.length).trans rfl,λi hi=>?_⟩;obtain⟨s,h3,h4⟩:=h2 i hi;exact⟨s,by simpa using h3,h4⟩
theorem Z06{W:World}(h:W.ShapedOpen Tryz.prog):∃ m,W.cell? ⟨1,0,none⟩=some (.int .i64 m):=by
 obtain⟨cs,hh,hs,hr⟩:=h.1 1 #[.int .i64 0] 3 (of_decide_eq_true (by kernel_rfl)) (by kernel_rfl);obtain⟨ts,hts,_,hall⟩:=hr (by kernel_rfl);rw[show Tryz.prog.cellTypes Tryz.prog.depth 3=some [3] by kernel_rfl]at hts;cases hts
 have h1:0<cs.size:=by rw[hs];decide
 obtain⟨u,hu',hok⟩:=hall 0 cs[0] (by simp[h1])
 have:u=3:=by simpa using hu'.symm
 subst this
 have hcell:W.cell? ⟨1,0,none⟩=some cs[0]:=by simp[World.cell?,hh,h1]
 rw[hcell];unfold Cell.ok at hok;rw[Tryz.underlying3]at hok
 cases hv:cs[0]<;>rw[hv]at hok<;>first|(obtain⟨rfl,_⟩:=hok;exact⟨_,rfl⟩)|simp at hok
theorem laid_G{W:World}(h:laidMet Tryz.prog Ztf W)(hS:W.ShapedOpen Tryz.prog):∃ m,∀ g,RelG (Zeb W) g (gE m g):=by
 obtain⟨m,hml⟩:=Z06 hS;refine⟨m,λg=>?_⟩;unfold gE
 split
 rename_i hg;subst hg;obtain⟨b,off,h1⟩:=Z9ba h;refine⟨?_,trivial⟩;refine .view .old _ 2 0 (λ_=>.iface 426 (.pointer (some ⟨b,off,none⟩))) (λi hi=>?_) (λi hi=>?_)
 have:i=0:=by simpa[V.cells]using hi
 subst this;refine⟨by show(W.cell? _).isSome=true;rw[h1]<;>rfl,World.block_lt_of_cell? _ _ h1,h1,rfl⟩
 have:i=0:=by simpa[V.cells]using hi
 subst this;exact .iface _ _ _ (.view .old _ b off (λ_=>.nilIface) (λi hi=>by simp[V.cells]at hi) (λi hi=>by simp[V.cells]at hi))
 split
 rename_i hg;subst hg;have ht:=Z8ba h;have hc:∀ i (hi:i<Lib.pow10Tab.length),W.cell? ⟨6,i,none⟩=some (.int .u64 (Lib.pow10Tab.getD i 0)):=λi hi=>ht.cell gTab i hi;have hlen:Lib.pow10Tab.length=20:=Lib.pow10Tab_length;have hlt:6<W.heap.size:=World.block_lt_of_cell? _ _ (hc 0 (by omega))
 have hv:W.var? Tryz.prog "internal/strconv.uint64pow10" = some (Lib.pow10Tab.map fun z=>Value.int .u64 z).toArray:=ht
 refine⟨?_,?_⟩;refine .view .old _ 6 0 (λi=>.int .u64 (Lib.pow10Tab.getD i 0)) (λi hi=>?_) (λi hi=>?_)
 have hi:i<Lib.pow10Tab.length:=by simpa[V.cells]using hi
 rw[Nat.zero_add];exact⟨by show(W.cell? _).isSome=true;rw[hc i hi]<;>rfl,hlt,hc i hi,rfl⟩
 have hi':i<Lib.pow10Tab.length:=by simpa[V.cells]using hi
 have key:∀ v,v=V.int .u64 (Lib.pow10Tab.getD i 0)->Rel (Zeb W) (Value.int .u64 (Lib.pow10Tab.getD i 0)) v:=λv e=>by rw[e];exact .int _ _
 exact key _ (by simp[V.cells,List.getD,hi']);refine⟨hlt,?_⟩;unfold World.var? at hv;rw[gTab]at hv;have hv:(match W.heap[6]? with|some (Obj.cells cs _ _)=>some cs|_=>none)=some (Lib.pow10Tab.map λz=>Value.int .u64 z).toArray:=hv
 split at hv
 rename_i cs t fr hh;cases hv;exact⟨_,t,fr,hh,by simp⟩;cases hv
 split
 rename_i hg;subst hg;obtain⟨cs,hv,hsz,hcs⟩:=Zb2 h;have h0:=λi=>World.var?_cell gSg hv i
 have hc:∀ i (hi:i<signsL.length),∃ s:ByteArray,W.cell? ⟨0,i,none⟩=some (.string s)/\s.data.toList=signsL[i]:=λi hi=>by
  obtain⟨s,h1,h2⟩:=hcs i hi;exact⟨s,by rw[h0 i];exact h1,h2⟩
 have hlt:0<W.heap.size:=by
  obtain⟨s,h1,_⟩:=hc 0 (by decide);exact World.block_lt_of_cell? _ _ h1
 refine⟨?_,?_⟩;refine .view .old _ 0 0 (λi=>(cs[i]?).getD undef) (λi hi=>?_) (λi hi=>?_)
 have hi:i<signsL.length:=by simpa[V.cells]using hi
 obtain⟨s,h1,_⟩:=hcs i hi;rw[Nat.zero_add,h1]
 have h2:W.cell? ⟨0,i,none⟩=some (.string s):=by rw[h0 i];exact h1
 exact⟨by show(W.cell? _).isSome=true;rw[h2]<;>rfl,hlt,h2,rfl⟩
 have hi':i<signsL.length:=by simpa[V.cells]using hi
 obtain⟨s,h1,h2⟩:=hcs i hi';rw[h1]
 have key:∀ v,v=V.str signsL[i]->Rel (Zeb W) (Value.string s) v:=λv e=>by rw[e];exact .str _ _ h2
 exact key _ (by simp[V.cells]);refine⟨hlt,?_⟩;unfold World.var? at hv;rw[gSg]at hv;have hv:(match W.heap[0]? with|some (Obj.cells cs _ _)=>some cs|_=>none)=some cs:=hv
 split at hv
 rename_i cs' t fr hh;cases hv;exact⟨_,t,fr,hh,by rw[hsz]<;>rfl⟩;cases hv
 split
 rename_i hg;subst hg;refine⟨?_,trivial⟩;refine .view .old _ 1 0 (λ_=>.int .i64 m) (λi hi=>?_) (λi hi=>?_)
 have:i=0:=by simpa[V.cells]using hi
 subst this;refine⟨by show(W.cell? _).isSome=true;rw[hml]<;>rfl,World.block_lt_of_cell? _ _ hml,hml,rfl⟩
 have:i=0:=by simpa[V.cells]using hi
 subst this;exact .int _ _;exact⟨.top _,trivial⟩
end Go.Proofs.YtegjlbpnpiigkaaGreatDoor
end

section
namespace Go.Proofs.YtegjlbpnpiigkaaGreatDoor
open Go.RowKit Go.Hs Go.ChangeShapes Go.WideShapes Go.ChangeAt
open Go.ChangeMaps (open_string shut_string)
set_option maxRecDepth 100000
variable{W:World}{H:Type}{enc:TypeId×Value->H}{b0:Nat}{v:Value}{d:DataW H}{ps:List MemPlace}
theorem argS(hv:Value.okWide Tryz.prog W .any b0 9 v)(h:DataW.Trod enc Tryz.prog W 0 (λ_=>true) true 9 v d ps):∃ x:List UInt8,Rel (Zeb W) v (.str x):=by
 obtain⟨s,rfl,_,_,_⟩:=open_string Tryz.underlying9 hv h;exact⟨_,.str s _ rfl⟩
theorem own:ownKnob Tryz.prog.godebug=none:=by kernel_rfl
theorem Z3o:laidOutB Tryz.prog=true:=by kernel_rfl
end Go.Proofs.YtegjlbpnpiigkaaGreatDoor
end

section
namespace Go.Hs
section
variable{P:Program}{W:World}
def ReadsB(P:Program)(W:World){α : Type}(t:TypeId)(m:Nat)(B : α -> Prop)(f : α -> List V):Prop:=
 P.cellsOf t=m/\(∀ a,(f a).length=m)/\∀ {H:Type} (enc:TypeId×Value->H) (held:Bool) (fuel:Nat) (cs:List Value) (x:DataW H×List MemPlace),
  DataW.trod enc P W 0 (λ_=>true) held fuel t cs=some x->(x.1.weights P t).all (· <= reachBytes)=true->∃ a,B a/\RelC (Zeb W) cs (f a)
theorem ReadsB.int{t:TypeId}{k:IntKind}(ht:P.underlying t=some (.int k))(hc:P.cellsOf t=1):ReadsB P W t 1 (InK k) (λn=>[V.int k n]):=by
 refine⟨hc,λ_=>rfl,λenc held fuel cs x h _=>?_⟩;obtain⟨n,rfl,_,hw⟩:=DataW.trod_int ht h;exact⟨n,by simpa[Lit.wf,InK]using hw,Zec rfl (.int _ _) RelC.nil⟩
theorem ReadsB.str{t:TypeId}(ht:P.underlying t=some .string)(hc:P.cellsOf t=1):ReadsB P W t 1 (λs=>s.length<=reachBytes) (λs:List UInt8=>[V.str s]):=by
 refine⟨hc,λ_=>rfl,λenc held fuel cs x h hw=>?_⟩;obtain⟨s,rfl,rfl,_⟩:=DataW.trod_string ht h;exact⟨s.data.toList,by simpa[DataW.weights]using hw,Zec rfl (.str _ _ rfl) RelC.nil⟩
theorem Zdu{H:Type}{e:TypeId}{l:List (DataW H)}(h:(DataW.weightsAll P e l).all (· <= reachBytes)=true){d:DataW H}(hd:d∈l):(d.weights P e).all (· <= reachBytes)=true:=by
 induction l with
 |nil=>cases hd
 |cons x r ih=>
  simp only[DataW.weightsAll,List.all_append,Bool.and_eq_true]at h
  rcases List.mem_cons.1 hd with rfl|hd
  exact h.1;exact ih h.2 hd
theorem Zaj{H:Type}{ts:List TypeId}{l:List (DataW H)}(h:(DataW.weightsEach P ts l).all (· <= reachBytes)=true){j:Nat}{t:TypeId}{d:DataW H}(ht:ts[j]?=some t)(hd:l[j]?=some d):(d.weights P t).all (· <= reachBytes)=true:=by
 induction ts generalizing l j with
 |nil=>cases ht
 |cons t0 ts ih=>
  cases l with
  |nil=>cases hd
  |cons x r=>
   simp only[DataW.weightsEach,List.all_append,Bool.and_eq_true]at h
   cases j with
   |zero=>
    obtain rfl:=Option.some.inj ht;obtain rfl:=Option.some.inj hd;exact h.1
   |succ j=>exact ih h.2 ht hd
theorem ReadsB.field{α H:Type}{t:TypeId}{m:Nat}{B : α -> Prop}{f : α -> List V}(hr:ReadsB P W t m B f){enc:TypeId×Value->H}{held:Bool}{i j n:Nat}{cs:List Value}{xs:List (DataW H×List MemPlace)}{ts:List TypeId}
  (hw:(DataW.weightsEach P ts (xs.map (·.1))).all (· <= reachBytes)=true) (ht:ts[j]?=some t)
  (h:DataW.trod enc P W 0 (λ_=>true) held n t ((cs.drop i).take (P.cellsOf t))=xs[j]?) (hj:j<xs.length):∃ a,B a/\RelC (Zeb W) ((cs.drop i).take m) (f a):=by
 rw[hr.1,List.getElem?_eq_getElem hj]at h;exact hr.2.2 enc held n _ _ h (Zaj hw ht (by rw[List.getElem?_map,List.getElem?_eq_getElem hj];rfl))
theorem ReadsB.slice{α : Type}{t e:TypeId}{m:Nat}{B : α -> Prop}{f : α -> V}(ht:P.underlying t=some (.slice e))(hc:P.cellsOf t=1)(hm:0<m)(hb:Nat.ble 1 (P.bytesOf e)=true)(he:ReadsB P W e m B (λa=>(f a).cells)):ReadsB P W t 1 (λs:Sl α => s.l.length<=reachBytes/\∀ a∈s.l,B a) (λs:Sl α => [Za .any m f s]):=by
 refine⟨hc,λ_=>rfl,λenc held fuel cs x h hw=>?_⟩;obtain⟨hce,hlen,hrd⟩:=he
 rcases DataW.trod_slice ht h with ⟨rfl,_⟩|⟨a,len,cap,elems,rest,n,_,rfl,hxe,_,hl,_,hel,hread,hsp,_⟩
 exact⟨.nil,⟨Nat.zero_le _,λa ha=>by cases ha⟩,Zec rfl .nils RelC.nil⟩;obtain⟨hrl,hrest⟩:=hsp rfl;rw[hce]at hread hrest;rw[hxe]at hw;simp only[DataW.weights,ht,List.all_cons,List.all_append,Bool.and_eq_true,decide_eq_true_eq,List.length_map]at hw
 have hle:len<=reachBytes:=by
  have h1:1<=P.bytesOf e:=Nat.le_of_ble_eq_true hb;have h2:=Nat.le_trans (Nat.mul_le_mul_left (elems.length+rest.length) h1) hw.1;omega
 have hspot:0<cap->a.spot=none:=by
  intro h0
  have key:∀ j (o:Option (DataW _×List MemPlace)),j=0->(W.cells? 0 (a.add (j*m)) m).bind (DataW.trod enc P W 0 (λ_=>true) held n e)=o->o.isSome=true->a.spot=none:=by
   intro j o hj0 hj ho;subst hj0;rw[Nat.zero_mul]at hj;rw[Option.isSome_iff_exists]at ho;obtain⟨y,rfl⟩:=ho;obtain⟨cs',h1,_⟩:=Option.bind_eq_some_iff.1 hj;obtain⟨_,h2,h3⟩:=World.cells?_some h1;have h4:=h3 0 hm;rw[List.getElem?_eq_getElem zo]at h4;exact World.cell?_spot h4
  rcases Nat.eq_zero_or_pos len with h1|h1
  have h2:=hrest 0 zo;exact key _ _ zo h2 (by rw[List.getElem?_eq_getElem zo];rfl);have h2:=hread 0 h1;exact key _ _ rfl h2 (by rw[List.getElem?_eq_getElem zo];rfl)
 rcases Nat.eq_zero_or_pos cap with h0|h0
 have h1:len=0:=zo;subst h0 h1;exact⟨.mk false [],⟨Nat.zero_le _,λa ha=>by cases ha⟩,Zec rfl (.slice0 _ _ _ a) RelC.nil⟩;have hs:=hspot h0;obtain⟨b,off,sp⟩:=a;have hs:sp=none:=hs;subst hs
 obtain⟨l,hll,hp⟩:=Zcv (p:=λi (a : α)=>B a/\∃ cs',W.cells? 0 (Addr.add ⟨b,off,none⟩ (i*m)) m=some cs'/\RelC (Zeb W) cs' (f a).cells) len (by
  intro i hi;have h1:=hread i hi;rw[List.getElem?_eq_getElem zo]at h1;obtain⟨cs',h2,h3⟩:=Option.bind_eq_some_iff.1 h1;obtain⟨a,hB,ha⟩:=hrd enc held n cs' _ h3 (Zdu hw.2.1 (List.mem_map.2 ⟨_,List.getElem_mem _,rfl⟩))
  exact⟨a,hB,cs',h2,ha⟩)
 refine⟨.mk false l,⟨by show l.length<=_;omega,λa ha=>?_⟩,Zec rfl ?_ RelC.nil⟩;obtain⟨i,hi,rfl⟩:=List.mem_iff_getElem.1 ha;exact(hp i _ (List.getElem?_eq_getElem hi)).1
 have hE:∀ v∈l.map f,v.cells.length=m:=by
  intro v hv;obtain⟨a,_,rfl⟩:=List.mem_map.1 hv;exact hlen a
 have hfl:=Z3a hE;rw[List.length_map]at hfl
 have cellAt:∀ i (hi:i<(flat (l.map f)).length),∃ y,W.cell? ⟨b,off+i,none⟩=some y/\y.oneCell'=true/\Rel (Zeb W) y (flat (l.map f))[i]:=by
  intro i hi
  have hi2:i<l.length*m:=by rw[<- hfl];exact hi
  have hq:i/m<l.length:=Nat.div_lt_of_lt_mul (by rw[Nat.mul_comm];exact hi2);have hr:i%m<m:=Nat.mod_lt _ hm
  have hdm:i/m*m+i%m=i:=by rw[Nat.mul_comm];exact Nat.div_add_mod i m
  obtain⟨_,cs',h1,h2⟩:=hp (i/m) _ (List.getElem?_eq_getElem hq);obtain⟨_,h3,h4⟩:=World.cells?_some h1;have h5:=h4 (i%m) hr;rw[List.getElem?_eq_getElem zo]at h5;have h6:=h2.rel (i%m) zo (by rw[hlen];exact hr);have h7:=Z6e hE (i/m) (i%m) (by rw[List.length_map];exact hq) hr;rw[hdm,List.getElem?_eq_getElem hi,List.getElem_map,List.getElem?_eq_getElem (by rw[hlen];exact hr)]at h7;have h8:=Option.some.inj h7;refine⟨_,?_,h2.one _ (List.getElem_mem _),by rw[h8];exact h6⟩;rw[<- h5,Addr.add_lit,Addr.add_lit,Nat.add_assoc,hdm]
 have:=Rel.slice (X:=Zeb W) .any false m (l.map f) b off cap (λi=>(W.cell? ⟨b,off+i,none⟩).getD undef) (by rw[List.length_map,hll];exact hl) zS hE
  (λi hi=>by
   obtain⟨y,h1,h2,_⟩:=cellAt i hi;refine⟨by show(W.cell? ⟨b,off+i,none⟩).isSome=true;rw[h1];rfl,trivial,?_,by simp only[h1,Option.getD_some];exact h2⟩
   show W.cell? ⟨b,off+i,none⟩=_
   rw[h1];rfl)
  (λi hi=>by
   obtain⟨y,h1,_,h3⟩:=cellAt i hi;simp only[h1,Option.getD_some]
   exact h3)
 rw[List.length_map,hll]at this;exact this
end
end Go.Hs
end
