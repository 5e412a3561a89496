/- OpenP: From the form's reading of arguments to the words of Core: proofs. The conditions of each are in its words. -/
import Derived.Test.YteacjkihjeiafaaDoorKOpenA
import Derived.Test.YteacjkihjeiafaaDoorKPf
namespace Go.Proofs.YteacjkihjeiafaaDoor
open Go.RowKit Go.ChangeShapes Go.WideShapes Go.ChangeAt Go.Deep
set_option linter.unusedVariables false
set_option linter.unusedSimpArgs false

set_option maxRecDepth 100000 in
theorem opens_step (w : World) : Opens StR w 70 := by
  intro H enc base spare held fuel cs x h hx
  obtain ⟨xs, n, _, rfl, hcl, hxl, hf⟩ := DataW.trod_struct Tryd.underlying70 h
  have hC : Tryd.prog.cellsOf 70 = 3 := by kernel_rfl
  have hCb : Tryd.prog.cellsOf 22 = 1 := by kernel_rfl
  have hCo : Tryd.prog.cellsOf 4 = 1 := by kernel_rfl
  have hCi : Tryd.prog.cellsOf 3 = 1 := by kernel_rfl
  rw [hC] at hcl
  match xs, hxl, cs, hcl with
  | [y0, y1, y2], _, [c0, c1, c2], _ =>
    have f0 : DataW.trod enc Tryd.prog w base spare held n 3 [c0] = some y0 := by have h := hf 0 _ rfl; simpa [hCi] using h
    have f1 : DataW.trod enc Tryd.prog w base spare held n 4 [c1] = some y1 := by have h := hf 1 _ rfl; simpa [hCi, hCo] using h
    have f2 : DataW.trod enc Tryd.prog w base spare held n 22 [c2] = some y2 := by have h := hf 2 _ rfl; simpa [hCi, hCb, hCo] using h
    simp only [DataW.weights, Tryd.underlying70, List.map_cons, List.map_nil, DataW.weightsEach, List.all_append, Bool.and_eq_true] at hx
    obtain ⟨i, g0, _⟩ := DataW.trod_int Tryd.underlying3 f0
    obtain ⟨o, g1, _⟩ := DataW.trod_bool Tryd.underlying4 f1
    obtain ⟨A, a, ca, g2, h1, h2⟩ := opens_bytes w f2 hx.2.2.1
    simp at g0 g1 g2
    subst g0 g1 g2
    exact ⟨⟨i, o, a⟩, A, ca, rfl, h1, h2⟩
theorem opens_steps (w : World) {H : Type} {enc : TypeId × Value → H} {base : Nat} {spare : Nat → Bool} {held : Bool} {fuel : Nat} {cs : List Value} {x : DataW H × List MemPlace}
    (h : DataW.trod enc Tryd.prog w base spare held fuel 23 cs = some x) (hx : (x.1.weights Tryd.prog 23).all (· ≤ reachBytes) = true) :
    ∃ A l c, cs = [.slice A (l : List St).length c] ∧ Sts All w A l ∧ l.length * 40 ≤ 140737488355328 := by
  obtain ⟨A, l, c, h1, h2, h3⟩ := opens_slice (size := 3) Tryd.underlying23 (by kernel_rfl) (by decide) (opens_step w) h hx
  have hb : Tryd.prog.bytesOf 70 = 40 := by kernel_rfl
  rw [hb] at h3
  exact ⟨A, l, c, h1, h2, by simp only [reachBytes] at *; omega⟩
set_option maxRecDepth 100000 in
theorem opens_proof (w : World) : Opens PfR w 27 := by
  intro H enc base spare held fuel cs x h hx
  obtain ⟨xs, n, _, rfl, hcl, hxl, hf⟩ := DataW.trod_struct Tryd.underlying27 h
  have hC : Tryd.prog.cellsOf 27 = 4 := by kernel_rfl
  have hCo : Tryd.prog.cellsOf 4 = 1 := by kernel_rfl
  have hCs : Tryd.prog.cellsOf 23 = 1 := by kernel_rfl
  have hCp : Tryd.prog.cellsOf 25 = 2 := by kernel_rfl
  rw [hC] at hcl
  match xs, hxl, cs, hcl with
  | [y0, y1, y2], _, [c0, c1, c2, c3], _ =>
    have f0 : DataW.trod enc Tryd.prog w base spare held n 4 [c0] = some y0 := by have h := hf 0 _ rfl; simpa [hCo] using h
    have f1 : DataW.trod enc Tryd.prog w base spare held n 23 [c1] = some y1 := by have h := hf 1 _ rfl; simpa [hCo, hCs] using h
    have f2 : DataW.trod enc Tryd.prog w base spare held n 25 [c2, c3] = some y2 := by have h := hf 2 _ rfl; simpa [hCo, hCs, hCp] using h
    simp only [DataW.weights, Tryd.underlying27, List.map_cons, List.map_nil, DataW.weightsEach, List.all_append, Bool.and_eq_true] at hx
    obtain ⟨o, g0, _⟩ := DataW.trod_bool Tryd.underlying4 f0
    obtain ⟨A, a, ca, g1, h1, h2⟩ := opens_steps w f1 hx.2.1
    obtain ⟨p, K, kc, V, vc, g2, h3, h4, h5, h6⟩ := opens_pair w _ _ _ _ _ _ _ _ f2 hx.2.2.1
    simp at g0 g1 g2
    obtain ⟨g2, g3⟩ := g2
    subst g0 g1 g2 g3
    exact ⟨⟨o, a, p⟩, A, ca, K, kc, V, vc, rfl, h1, h3, h4, h2, h5, h6⟩
end Go.Proofs.YteacjkihjeiafaaDoor
