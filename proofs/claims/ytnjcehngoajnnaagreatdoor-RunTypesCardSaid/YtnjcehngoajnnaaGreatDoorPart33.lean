/- Part 33 of the proof of a statement of seat YtnjcehngoajnnaaGreatDoor: HsEnc. -/
import Derived.Test.YtnjcehngoajnnaaGreatDoorPart32
import Derived.Test.YtnjcehngoajnnaaGreatDoorPart19
set_option linter.unusedSimpArgs false
set_option linter.unusedVariables false
section
namespace Go.Hs
theorem Zee {α : Type} (g:Col→Col) (c:Col) (m:Nat) {f f' : α → V} (h:∀ x,(f x).recol g=f' x) (s:Sl α):(Za c m f s).recol g=Za (g c) m f' s:=by
 cases s with
 | nil=>rfl
 | mk b l =>
  simp only [Za,V.recol,Zm,List.map_map]
  congr 1
  exact List.map_congr_left fun x _=>h x
@[go_sem] theorem recol_encI (g:Col→Col) (c:Col) (m:Nat) (k:IntKind) (s:Sl Int):(Za c m (V.int k) s).recol g=Za (g c) m (V.int k) s:=Zee g c m (fun _=>rfl) s
@[go_sem] theorem Zgz (g:Col→Col) (c:Col) (m:Nat) (s:Sl (List UInt8)):(Za c m V.str s).recol g=Za (g c) m V.str s:=Zee g c m (fun _=>rfl) s
@[go_sem] theorem Zce (g:Col→Col) (k:IntKind) (n:Int):(V.int k n).recol g = .int k n:=rfl
@[go_sem] theorem recol_bool (g:Col→Col) (b:Bool):(V.bool b).recol g = .bool b:=rfl
@[go_sem] theorem Z9f (g:Col→Col) (b:List UInt8):(V.str b).recol g = .str b:=rfl
@[go_sem] theorem Zag (g:Col→Col) (l:List V):(V.agg l).recol g = .agg (l.map (V.recol g)):=by simp [V.recol,Zm]
@[go_sem] theorem recol_tuple (g:Col→Col) (l:List V):(V.tuple l).recol g = .tuple (l.map (V.recol g)):=by simp [V.recol,Zm]
@[go_sem] theorem ent_new:Col.new.ent = .old:=rfl
end Go.Hs
end
