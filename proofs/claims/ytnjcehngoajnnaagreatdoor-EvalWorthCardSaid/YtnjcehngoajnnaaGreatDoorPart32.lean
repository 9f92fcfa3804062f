/- Part 32 of the proof of a statement of seat YtnjcehngoajnnaaGreatDoor: HsEnc. -/
import Derived.Test.YtnjcehngoajnnaaGreatDoorPart31
import Derived.Test.YtnjcehngoajnnaaGreatDoorPart19
set_option linter.unusedSimpArgs false
set_option linter.unusedVariables false
section
namespace Go.Hs
theorem recol_enc {α : Type} (g:Col→Col) (c:Col) (m:Nat) {f f' : α → V} (h:∀ x,(f x).recol g=f' x) (s:Sl α):(encSl c m f s).recol g=encSl (g c) m f' s:=by
 cases s with
 | nil=>rfl
 | mk b l =>
  simp only [encSl,V.recol,V.recolL_eq,List.map_map]
  congr 1
  exact List.map_congr_left fun x _=>h x
@[go_sem] theorem recol_encI (g:Col→Col) (c:Col) (m:Nat) (k:IntKind) (s:Sl Int):(encSl c m (V.int k) s).recol g=encSl (g c) m (V.int k) s:=recol_enc g c m (fun _=>rfl) s
@[go_sem] theorem recol_encS (g:Col→Col) (c:Col) (m:Nat) (s:Sl (List UInt8)):(encSl c m V.str s).recol g=encSl (g c) m V.str s:=recol_enc g c m (fun _=>rfl) s
@[go_sem] theorem recol_int (g:Col→Col) (k:IntKind) (n:Int):(V.int k n).recol g = .int k n:=rfl
@[go_sem] theorem recol_bool (g:Col→Col) (b:Bool):(V.bool b).recol g = .bool b:=rfl
@[go_sem] theorem recol_str (g:Col→Col) (b:List UInt8):(V.str b).recol g = .str b:=rfl
@[go_sem] theorem recol_agg (g:Col→Col) (l:List V):(V.agg l).recol g = .agg (l.map (V.recol g)):=by simp [V.recol,V.recolL_eq]
@[go_sem] theorem recol_tuple (g:Col→Col) (l:List V):(V.tuple l).recol g = .tuple (l.map (V.recol g)):=by simp [V.recol,V.recolL_eq]
@[go_sem] theorem ent_new:Col.new.ent = .old:=rfl
@[go_sem] theorem bk_old:Col.old.bk = .any:=rfl
end Go.Hs
end
