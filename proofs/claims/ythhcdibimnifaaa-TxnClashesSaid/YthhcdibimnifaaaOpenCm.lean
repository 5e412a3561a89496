/- From the form's reading of arguments to the words of Core: commits. -/
import Derived.Test.YthhcdibimnifaaaOpenWr
import Derived.Test.YthhcdibimnifaaaCm
namespace Go.Proofs.Ythhcdibimnifaaa
open Go.RowKit Go.ChangeShapes Go.WideShapes Go.ChangeAt Go.Deep
set_option linter.unusedVariables false
set_option linter.unusedSimpArgs false

theorem opens_int (w : World) {H : Type} {enc : TypeId × Value → H} {base : Nat} {spare : Nat → Bool} {held : Bool} {fuel : Nat} {cs : List Value} {x : DataW H × List MemPlace}
    (h : DataW.trod enc Try.prog w base spare held fuel 3 cs = some x) : ∃ n, cs = [.int .i64 n] ∧ -9223372036854775808 ≤ n ∧ n ≤ 9223372036854775807 := by
  obtain ⟨n, rfl, _, hw⟩ := DataW.trod_int Try.underlying3 h
  exact ⟨n, rfl, bounds_i64 hw⟩
set_option maxRecDepth 100000 in
theorem opens_commit (w : World) : Opens CmR w 59 := by
  intro H enc base spare held fuel cs x h hx
  obtain ⟨xs, n, _, rfl, hcl, hxl, hf⟩ := DataW.trod_struct Try.underlying59 h
  have hC : Try.prog.cellsOf 59 = 2 := by kernel_rfl
  have hCb : Try.prog.cellsOf 51 = 1 := by kernel_rfl
  have hCi : Try.prog.cellsOf 3 = 1 := by kernel_rfl
  rw [hC] at hcl
  match xs, hxl, cs, hcl with
  | [y0, y1], _, [c0, c1], _ =>
    have f0 : DataW.trod enc Try.prog w base spare held n 3 [c0] = some y0 := by have h := hf 0 _ rfl; simpa [hCi] using h
    have f1 : DataW.trod enc Try.prog w base spare held n 51 [c1] = some y1 := by have h := hf 1 _ rfl; simpa [hCi, hCb] using h
    simp only [DataW.weights, Try.underlying59, List.map_cons, List.map_nil, DataW.weightsEach, List.all_append, Bool.and_eq_true] at hx
    obtain ⟨m0, g0, _⟩ := opens_int w f0
    obtain ⟨B, m, d, g1, h2, h3⟩ := opens_writes w f1 hx.2.1
    simp at g0 g1
    subst g0 g1
    exact ⟨(m0, m), B, d, rfl, h2, h3⟩
theorem opens_commits (w : World) {H : Type} {enc : TypeId × Value → H} {base : Nat} {spare : Nat → Bool} {held : Bool} {fuel : Nat} {cs : List Value} {x : DataW H × List MemPlace}
    (h : DataW.trod enc Try.prog w base spare held fuel 70 cs = some x) (hx : (x.1.weights Try.prog 70).all (· ≤ reachBytes) = true) :
    ∃ A l c, cs = [.slice A (l : List Cm).length c] ∧ Cs All w A l ∧ l.length * 32 ≤ 140737488355328 := by
  obtain ⟨A, l, c, h1, h2, h3⟩ := opens_slice (size := 2) Try.underlying70 (by kernel_rfl) (by decide) (opens_commit w) h hx
  have hb : Try.prog.bytesOf 59 = 32 := by kernel_rfl
  rw [hb] at h3
  exact ⟨A, l, c, h1, h2, by simp only [reachBytes] at *; omega⟩
end Go.Proofs.Ythhcdibimnifaaa
