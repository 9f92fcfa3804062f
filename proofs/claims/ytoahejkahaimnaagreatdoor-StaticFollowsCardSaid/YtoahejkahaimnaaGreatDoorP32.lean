/- A part. No condition. -/
import Derived.Test.YtoahejkahaimnaaGreatDoorP31
import Derived.Laws.BytesArg
set_option linter.all false
namespace Go.Hs
section
variable{P:Program}{E:Ent}
theorem Zlp{X:Cx}{H:Heap}(o:Inv X H){a dst e:TypeId}(k:P.underlying a=some (.slice e))(m:P.underlying e=some (.int .u8))(f:P.underlying dst=some .string){y:Value}{ob g fz:Nat}{c:Col}{xs:List Int}
  (h:Rel X y (.msl ob g 0 xs.length 1)) (l:H ob=.cells c g fz (xs.map (V.int .u8))):(convert a dst y).run P X.w=.ok (.string (strOfNums xs)) X.w:=by
 generalize n:xs.length=len at h
 cases h with
 |msl _ _ _ _ _ b bs cap hβ hcap hb=>
  obtain⟨z,t,r,u,q⟩:=o.cells l hβ;refine run_convert_bytes_arg _ a e k m b (bs+0) len cap xs n (λi s=>?_) dst f;have d:i<xs.length:=zo;obtain⟨x,j,p,_⟩:=q.get? (i:=i) (v:=.int .u8 xs[i]) (by grind);rw[V5 (by grind),Array.getElem?_toList]at j;rw[Nat.add_zero,Qo r,j,p.int_inv];simp[d]
theorem AW.regionB{id:Nat}{ops:Array Oper}{Q:Exit->AS->Prop}{s:AS}(n d:Nat){b dst e:TypeId}{x:Operand}{ty:TypeId}{pos:String}{af:Array Edge}(hd:(ops.all (Xz E.n))=true)(o:ops[n]?=some ⟨some d,.convert b dst x,ty,pos,af,none⟩)
  (l:P.underlying b=some (.slice e)) (p:P.underlying e=some (.int .u8)) (i:P.underlying dst=some .string)
  (h:Yi P E ops (λs1=>∃ ob g c fz,∃ xs:List Int,s1.ev E x=.msl ob g 0 xs.length 1/\s1.H ob=.cells c g fz (xs.map (V.int .u8)) /\
   Yi P E ops (Q .normal) (ops.toList.drop (n+1)) (AS.put s1 (some d) (.str (xs.map λn=>UInt8.ofNat n.toNat)))) (ops.toList.take n) s):AW P E (.region id ops false) Q s:=by
 refine L8 n hd o rfl (Ru (λs1 m=>?_) h);obtain⟨ob,g,c,fz,xs,t,r,q⟩:=m;refine⟨_,s1.H,Gives.e λX a w j=>?_,q⟩;have u:=j.hw;have k:=j.ev x;rw[t]at k;have f:=Zlp j.go.inv l p i k r;exact⟨.string (strOfNums xs),by simp only[execOp,Sem.run_bind,f,Result.andThen_ok,Sem.run_pure],.str _ _ (strOfNums_data xs)⟩
end
end Go.Hs
