/- A part. No condition. -/
import Derived.Test.YtoahejkahaimnaaGreatDoorP31
import Derived.Laws.BytesArg
set_option linter.all false
namespace Go.Hs
section
variable{P:Program}{E:Ent}
theorem Zkaa{X:Cx}{H:Heap}(hI:Inv X H){src dst e:TypeId}(hs:P.underlying src=some (.slice e))(he:P.underlying e=some (.int .u8))(hds:P.underlying dst=some .string){y:Value}{ob g fz:Nat}{c:Col}{xs:List Int}
  (hy:Rel X y (.msl ob g 0 xs.length 1)) (ho:H ob=.cells c g fz (xs.map (V.int .u8))):(convert src dst y).run P X.w=.ok (.string (strOfNums xs)) X.w:=by
 generalize hL:xs.length=len at hy
 cases hy with
 |msl _ _ _ _ _ b bs cap hβ hcap hb=>
  obtain⟨c1,t,h1,h2,h3⟩:=hI.cells ho hβ;refine run_convert_bytes_arg _ src e hs he b (bs+0) len cap xs hL (λi hi=>?_) dst hds;have hi':i<xs.length:=zo;obtain⟨x,h4,h5,_⟩:=h3.get? (i:=i) (v:=.int .u8 xs[i]) (by simp[hi']);rw[Zic (zu hi'),Array.getElem?_toList]at h4;rw[Nat.add_zero,Zqh h1,h4,h5.int_inv];simp[List.getD,hi']
theorem AW.regionB{id:Nat}{ops:Array Oper}{Q:Exit->AS->Prop}{s:AS}(n d:Nat){src dst e:TypeId}{x:Operand}{ty:TypeId}{pos:String}{af:Array Edge}(hd:(ops.all (Z7b E.n))=true)(ho:ops[n]?=some ⟨some d,.convert src dst x,ty,pos,af,none⟩)
  (hs:P.underlying src=some (.slice e)) (he:P.underlying e=some (.int .u8)) (hds:P.underlying dst=some .string)
  (h:Zsa P E ops (λs1=>∃ ob g c fz,∃ xs:List Int,s1.ev E x=.msl ob g 0 xs.length 1/\s1.H ob=.cells c g fz (xs.map (V.int .u8)) /\
   Zsa P E ops (Q .normal) (ops.toList.drop (n+1)) (AS.put s1 (some d) (.str (xs.map λn=>UInt8.ofNat n.toNat)))) (ops.toList.take n) s):AW P E (.region id ops false) Q s:=by
 refine Zol n hd ho rfl (Zag (λs1 hq=>?_) h);obtain⟨ob,g,c,fz,xs,h1,h2,h3⟩:=hq;refine⟨_,s1.H,Gives.e λX a w hX=>?_,h3⟩;have hw:=hX.hw;subst hw;have hy:=hX.ev x;rw[h1]at hy;have hrun:=Zkaa hX.go.inv hs he hds hy h2;exact⟨.string (strOfNums xs),by simp only[execOp,Sem.run_bind,hrun,Result.andThen_ok,Sem.run_pure],.str _ _ (strOfNums_data xs)⟩
end
end Go.Hs
