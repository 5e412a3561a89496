/- From the form's reading of arguments to the words of Core: a row of []byte. -/
import Derived.Test.YtjgdeeabejoegaaDoorOpen
import Derived.Test.YtjgdeeabejoegaaDoorParts
namespace Go.Proofs.YtjgdeeabejoegaaDoor
open Go.RowKit Go.ChangeShapes Go.WideShapes Go.ChangeAt Go.Deep
set_option linter.unusedVariables false
set_option linter.unusedSimpArgs false

theorem opens_bl (w : World) : Opens BlR w 22 := by
  intro H enc base spare held fuel cs x h hx
  obtain ⟨A, l, c, h1, h2, h3⟩ := opens_bytes w h hx
  exact ⟨l, A, c, h1, h2, h3⟩
theorem opens_byteslices (w : World) {H : Type} {enc : TypeId × Value → H} {base : Nat} {spare : Nat → Bool} {held : Bool} {fuel : Nat} {cs : List Value} {x : DataW H × List MemPlace}
    (h : DataW.trod enc Tryd.prog w base spare held fuel 44 cs = some x) (hx : (x.1.weights Tryd.prog 44).all (· ≤ reachBytes) = true) :
    ∃ A l c, cs = [.slice A (l : List (List UInt8)).length c] ∧ (Bls All w A l ∧ l.length * 24 ≤ 140737488355328) := by
  obtain ⟨A, l, c, h1, h2, h3⟩ := opens_slice (size := 1) Tryd.underlying44 (by kernel_rfl) (by decide) (opens_bl w) h hx
  have hb : Tryd.prog.bytesOf 22 = 24 := by kernel_rfl
  rw [hb] at h3
  exact ⟨A, l, c, h1, h2, by simp only [reachBytes] at *; omega⟩
end Go.Proofs.YtjgdeeabejoegaaDoor
