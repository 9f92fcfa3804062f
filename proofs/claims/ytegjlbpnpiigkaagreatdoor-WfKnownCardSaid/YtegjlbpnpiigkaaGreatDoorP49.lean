/- A part. No condition. -/
import Derived.Test.YtegjlbpnpiigkaaGreatDoorP30
set_option linter.all false
namespace Go.Hs
section
variable{P:Program}{E:Ent}
theorem Z39{X:Cx}{B C:Nat}{col:Col}(hso:∀ b i x,X.S b i->col.ok X.base b->X.cell b i=some x->(B<=b/\b<C)/\Blk X.w b){t:TypeId}{x y:Value}{u v:V}(hx:Rel X x (.view col u))(hy:Rel X y v)(hs:v.solid=true)(hsz:Znb P t=some v.cells.length)(hl:Zxba u.cells v.cells)(hpos:0<v.cells.length):
  ∃ w2,(Instr.storeAt t x y).run P X.w=.ok () w2/\KP B C X.w w2:=by
 obtain⟨hlen,hget⟩:=Zrp hl
 cases hx with
 |view _ _ b off f hc hr=>
  obtain⟨h1,h2,h3,h4⟩:=hc 0 zo;obtain⟨⟨hB,hC⟩,c1,t1,hb⟩:=hso _ _ _ h1 h2 h3
  have hcell:∀ i,i<u.cells.length->c1[off+i]?=some (f i):=λi hi=>by
   have:=(hc i hi).2.2.1;unfold Cx.cell at this;rwa [Zdh hb]at this
  have hCC:=hy.toC hs;have hlC:=hCC.len
  have hfit:off+y.cells.toList.length<=c1.size:=by
   have:=hcell (u.cells.length-1) zo;have:=(Array.getElem?_eq_some_iff.1 this).1;omega
  have hrun:=run_storeCells_at (P:=P) b off t1 y.cells.toList 0 c1 X.w hb zo hCC.one;simp only[Nat.add_zero]at hrun;refine⟨_,?_,Zt9 hb hB hC hfit λi hi=>?_⟩;have hl2:y.cells.size=v.cells.length:=zu hlC;simp[Instr.storeAt,Instr.sureAddr,storeVar,Zma hsz,hl2,hrun];have hi1:i<u.cells.length:=zo;have e:=hcell i hi1;obtain⟨hi2,e⟩:=Array.getElem?_eq_some_iff.1 e;rw[e];exact(hget i hi1 zo).alike (hr i hi1) (hCC.rel i hi zo)
def Znla(P:Program)(t:TypeId)(p v:V):Prop:=∃ u,p=.view .new u/\v.solid=true/\Znb P t=some v.cells.length/\Zxba u.cells v.cells/\0<v.cells.length
theorem Zila{id:Nat}{ops:Array Oper}{Q:Exit->AS->Prop}{s:AS}(l:List (Nat×V))(m:List (Nat×AObj))(ks:List (Nat×Sh))(hb:E.X0.base=E.X0.w.heap.size)(hI0:Inv E.X0 E.H0)(hG:∀ g,(E.G g).Old)(hfk:∀ p∈ks,p.2.free)
  {t ty:TypeId} {p x:Operand} {pos:String} {after:Array Edge} (hd:(ops.all (Zpe E.n))=true) (hsz:Nat.ble 1 ops.size=true)
  (ho:ops[ops.size-1]?=some ⟨none,.store t p x,ty,pos,after,none⟩)
  (hl:oldL l) (hm:oldO m)
  (h:Zlb P E ops (λs'=>Znla P t (s'.ev E p) (s'.ev E x)/\Zkq ks s'.τ /\ Zmq s'.τ l/\Zmq s'.H m/\∀ lk,ShN ks lk->Q .normal ⟨Zab (Zab emp l) lk,Zab Zk m⟩) ops.toList.dropLast s) (hdf:E.df=[]:=by rfl) (hrk:E.rk=.plain:=by rfl):AW P E (.region id ops false) Q s:=by
 intro a w hs;refine wpIn_region (Z1r (λch a w h=>.inr ⟨ch,rfl,h⟩) hd hsz ho rfl (λ_ h=>nomatch h) hs h ?_);rintro s' a' w' ⟨X,hX⟩ ⟨⟨u,hp,hso,hz,hlk,hpos⟩,hks,hel,heo,hQ⟩;have hw:=hX.hw;subst hw;have hbase:X.base=E.X0.base:=hX.go.le.base;have hpv:=hX.ev p;rw[hp]at hpv;obtain⟨w2,hrun,hkp⟩:=Z39 (P:=P) (B:=X.base) (C:=X.w.heap.size) (col:=.new) (λb i x h h' hc=>⟨⟨h',World.block_lt_of_cell? _ _ hc⟩,hX.go.inv.thawC h h' hc⟩) hpv (hX.ev x) hso hz hlk hpos;unfold Oper.wp
 have:(execOp a'.eval ⟨none,.store t p x,ty,pos,after,none⟩).run P X.w=.ok .skip w2:=by
  simp only[execOp,Sem.run_bind,hrun,Result.andThen_ok,Sem.run_pure]
 rw[this,Oper.upon_skip];obtain⟨lk,hlk2,key⟩:=hX.spoiltK hb hI0 hbase hkp l m ks hl hm hfk hel heo hks hG hdf hrk;exact .inl ⟨_,key,hQ lk hlk2⟩
end
end Go.Hs
