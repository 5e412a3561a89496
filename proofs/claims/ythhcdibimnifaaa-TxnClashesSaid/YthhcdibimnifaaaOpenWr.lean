/- From the form's reading of arguments to the words of Core: writes. -/
import Derived.Test.YthhcdibimnifaaaOpen
import Derived.Test.YthhcdibimnifaaaWr
namespace Go.Proofs.Ythhcdibimnifaaa
open Go.RowKit Go.ChangeShapes Go.WideShapes Go.ChangeAt Go.Deep
set_option linter.unusedVariables false
set_option linter.unusedSimpArgs false

/-- A field that is a bool. -/
theorem opens_bool (w : World) {H : Type} {enc : TypeId × Value → H} {base : Nat} {spare : Nat → Bool} {held : Bool} {fuel : Nat} {cs : List Value} {x : DataW H × List MemPlace}
    (h : DataW.trod enc Try.prog w base spare held fuel 4 cs = some x) : ∃ b, cs = [.bool b] := by
  obtain ⟨b, rfl, _⟩ := DataW.trod_bool Try.underlying4 h
  exact ⟨b, rfl⟩
set_option maxRecDepth 100000 in
theorem opens_wr (w : World) : Opens WrR w 94 := by
  intro H enc base spare held fuel cs x h hx
  obtain ⟨xs, n, _, rfl, hcl, hxl, hf⟩ := DataW.trod_struct Try.underlying94 h
  have hC : Try.prog.cellsOf 94 = 4 := by kernel_rfl
  have hCb : Try.prog.cellsOf 23 = 1 := by kernel_rfl
  have hCo : Try.prog.cellsOf 4 = 1 := by kernel_rfl
  rw [hC] at hcl
  match xs, hxl, cs, hcl with
  | [y0, y1, y2, y3], _, [c0, c1, c2, c3], _ =>
    have f0 : DataW.trod enc Try.prog w base spare held n 23 [c0] = some y0 := by have h := hf 0 _ rfl; simpa [hCb] using h
    have f1 : DataW.trod enc Try.prog w base spare held n 23 [c1] = some y1 := by have h := hf 1 _ rfl; simpa [hCb] using h
    have f2 : DataW.trod enc Try.prog w base spare held n 4 [c2] = some y2 := by have h := hf 2 _ rfl; simpa [hCb, hCo] using h
    have f3 : DataW.trod enc Try.prog w base spare held n 23 [c3] = some y3 := by have h := hf 3 _ rfl; simpa [hCb, hCo] using h
    simp only [DataW.weights, Try.underlying94, List.map_cons, List.map_nil, DataW.weightsEach, List.all_append, Bool.and_eq_true] at hx
    obtain ⟨A, a, ca, g0, h1, h2⟩ := opens_bytes w f0 hx.1
    obtain ⟨B, b, cb, g1, h3, h4⟩ := opens_bytes w f1 hx.2.1
    obtain ⟨o, g2⟩ := opens_bool w f2
    obtain ⟨C, c, cc, g3, h5, h6⟩ := opens_bytes w f3 hx.2.2.2.1
    simp at g0 g1 g2 g3
    subst g0 g1 g2 g3
    exact ⟨⟨a, b, o, c⟩, A, ca, B, cb, C, cc, rfl, h1, h3, h5, h2, h4, h6⟩
theorem opens_writes (w : World) {H : Type} {enc : TypeId × Value → H} {base : Nat} {spare : Nat → Bool} {held : Bool} {fuel : Nat} {cs : List Value} {x : DataW H × List MemPlace}
    (h : DataW.trod enc Try.prog w base spare held fuel 51 cs = some x) (hx : (x.1.weights Try.prog 51).all (· ≤ reachBytes) = true) :
    ∃ A l c, cs = [.slice A (l : List Wr).length c] ∧ Ws All w A l ∧ l.length * 80 ≤ 140737488355328 := by
  obtain ⟨A, l, c, h1, h2, h3⟩ := opens_slice (size := 4) Try.underlying51 (by kernel_rfl) (by decide) (opens_wr w) h hx
  have hb : Try.prog.bytesOf 94 = 80 := by kernel_rfl
  rw [hb] at h3
  exact ⟨A, l, c, h1, h2, by simp only [reachBytes] at *; omega⟩
end Go.Proofs.Ythhcdibimnifaaa
