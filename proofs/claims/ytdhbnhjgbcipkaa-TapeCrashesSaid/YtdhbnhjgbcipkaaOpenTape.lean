/- From the form's reading of arguments to the words of Core: tapes. -/
import Derived.Test.YtdhbnhjgbcipkaaOpenAct
import Derived.Test.YtdhbnhjgbcipkaaTape
namespace Go.Proofs.Ytdhbnhjgbcipkaa
open Go.RowKit Go.ChangeShapes Go.WideShapes Go.ChangeAt Go.Deep

theorem opens_slice_cap {H : Type} {enc : TypeId × Value → H} {w : World} {base : Nat} {spare : Nat → Bool} {held : Bool} {fuel : Nat} {x : DataW H × List MemPlace} {T E : TypeId} (hT : Try.prog.underlying T = some (.slice E)) {A : Option Addr} {n c : Nat}
    (h : DataW.trod enc Try.prog w base spare held fuel T [.slice A n c] = some x) : n ≤ c := by
  rcases open_slice hT h with ⟨h0, _⟩ | ⟨a, len, cap, m, _, D, Pl, h0, _, hl, _⟩
  · simp at h0; omega
  · simp at h0; omega
set_option maxRecDepth 100000 in
theorem opens_tape (w : World) : Opens TapeR w 36 := by
  intro H enc base spare held fuel cs x h hx
  obtain ⟨xs, n, _, rfl, hcl, hxl, hf⟩ := DataW.trod_struct Try.underlying36 h
  have hC : Try.prog.cellsOf 36 = 2 := by kernel_rfl
  have hCb : Try.prog.cellsOf 27 = 1 := by kernel_rfl
  have hCi : Try.prog.cellsOf 3 = 1 := by kernel_rfl
  rw [hC] at hcl
  match xs, hxl, cs, hcl with
  | [y0, y1], _, [c0, c1], _ =>
    have f0 : DataW.trod enc Try.prog w base spare held n 27 [c0] = some y0 := by have h := hf 0 _ rfl; simpa [hCb] using h
    have f1 : DataW.trod enc Try.prog w base spare held n 3 [c1] = some y1 := by have h := hf 1 _ rfl; simpa [hCi] using h
    simp only [DataW.weights, Try.underlying36, List.map_cons, List.map_nil, DataW.weightsEach, List.all_append, Bool.and_eq_true] at hx
    obtain ⟨B, m, d, g0, h2, h3⟩ := opens_bytes w f0 hx.1
    obtain ⟨m1, g1, _⟩ := opens_int w f1
    simp at g0 g1
    subst g0 g1
    exact ⟨(m, m1), B, d, rfl, opens_slice_cap Try.underlying27 f0, h2, h3⟩
end Go.Proofs.Ytdhbnhjgbcipkaa
