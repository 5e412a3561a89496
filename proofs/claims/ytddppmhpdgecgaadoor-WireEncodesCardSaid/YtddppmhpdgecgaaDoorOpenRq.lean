/- From the form's reading of arguments to the words of Core: requests. -/
import Derived.Test.YtddppmhpdgecgaaDoorOpen
import Derived.Test.YtddppmhpdgecgaaDoorRq
namespace Go.Proofs.YtddppmhpdgecgaaDoor
open Go.RowKit Go.ChangeShapes Go.WideShapes Go.ChangeAt Go.Deep
set_option linter.unusedVariables false
set_option linter.unusedSimpArgs false

set_option maxRecDepth 100000 in
theorem opens_request (w : World) : Opens RqR w 24 := by
  intro H enc base spare held fuel cs x h hx
  obtain ⟨xs, n, _, rfl, hcl, hxl, hf⟩ := DataW.trod_struct Tryd.underlying24 h
  have hC : Tryd.prog.cellsOf 24 = 5 := by kernel_rfl
  have hCb : Tryd.prog.cellsOf 22 = 1 := by kernel_rfl
  have hCi : Tryd.prog.cellsOf 3 = 1 := by kernel_rfl
  rw [hC] at hcl
  match xs, hxl, cs, hcl with
  | [y0, y1, y2, y3, y4], _, [c0, c1, c2, c3, c4], _ =>
    have f0 : DataW.trod enc Tryd.prog w base spare held n 3 [c0] = some y0 := by have h := hf 0 _ rfl; simpa [hCi] using h
    have f1 : DataW.trod enc Tryd.prog w base spare held n 22 [c1] = some y1 := by have h := hf 1 _ rfl; simpa [hCb, hCi] using h
    have f2 : DataW.trod enc Tryd.prog w base spare held n 22 [c2] = some y2 := by have h := hf 2 _ rfl; simpa [hCb, hCi] using h
    have f3 : DataW.trod enc Tryd.prog w base spare held n 22 [c3] = some y3 := by have h := hf 3 _ rfl; simpa [hCb, hCi] using h
    have f4 : DataW.trod enc Tryd.prog w base spare held n 22 [c4] = some y4 := by have h := hf 4 _ rfl; simpa [hCb, hCi] using h
    simp only [DataW.weights, Tryd.underlying24, List.map_cons, List.map_nil, DataW.weightsEach, List.all_append, Bool.and_eq_true] at hx
    obtain ⟨i, g0, _⟩ := DataW.trod_int Tryd.underlying3 f0
    obtain ⟨A, a, ca, g1, h1, h2⟩ := opens_bytes w f1 hx.2.1
    obtain ⟨B, b, cb, g2, h3, h4⟩ := opens_bytes w f2 hx.2.2.1
    obtain ⟨C, c, cc, g3, h5, h6⟩ := opens_bytes w f3 hx.2.2.2.1
    obtain ⟨D, d, cd, g4, h7, h8⟩ := opens_bytes w f4 hx.2.2.2.2.1
    simp at g0 g1 g2 g3 g4
    subst g0 g1 g2 g3 g4
    exact ⟨⟨i, a, b, c, d⟩, A, ca, B, cb, C, cc, D, cd, rfl, h1, h3, h5, h7, h2, h4, h6, h8⟩
end Go.Proofs.YtddppmhpdgecgaaDoor
