/- From the form's reading of arguments to the words of Core: tenants. -/
import Derived.Test.YthhcdibimnifaaaOpen
import Derived.Test.YthhcdibimnifaaaTen
namespace Go.Proofs.Ythhcdibimnifaaa
open Go.RowKit Go.ChangeShapes Go.WideShapes Go.ChangeAt Go.Deep
set_option linter.unusedVariables false
set_option linter.unusedSimpArgs false

theorem opens_slice_cap {H : Type} {enc : TypeId × Value → H} {w : World} {base : Nat} {spare : Nat → Bool} {held : Bool} {fuel : Nat} {x : DataW H × List MemPlace} {T E : TypeId} (hT : Try.prog.underlying T = some (.slice E)) {A : Option Addr} {n c : Nat}
    (h : DataW.trod enc Try.prog w base spare held fuel T [.slice A n c] = some x) : n ≤ c := by
  rcases open_slice hT h with ⟨h0, _⟩ | ⟨a, len, cap, m, _, D, Pl, h0, _, hl, _⟩
  · simp at h0; omega
  · simp at h0; omega
set_option maxRecDepth 100000 in
theorem opens_ten (w : World) : Opens TenR w 122 := by
  intro H enc base spare held fuel cs x h hx
  obtain ⟨xs, n, _, rfl, hcl, hxl, hf⟩ := DataW.trod_struct Try.underlying122 h
  have hC : Try.prog.cellsOf 122 = 2 := by kernel_rfl
  have hCb : Try.prog.cellsOf 23 = 1 := by kernel_rfl
  have hCp : Try.prog.cellsOf 22 = 1 := by kernel_rfl
  rw [hC] at hcl
  match xs, hxl, cs, hcl with
  | [y0, y1], _, [c0, c1], _ =>
    have f0 : DataW.trod enc Try.prog w base spare held n 23 [c0] = some y0 := by
      have h := hf 0 _ rfl
      simpa [hCb] using h
    have f1 : DataW.trod enc Try.prog w base spare held n 22 [c1] = some y1 := by
      have h := hf 1 _ rfl
      simpa [hCb, hCp] using h
    simp only [DataW.weights, Try.underlying122, List.map_cons, List.map_nil, DataW.weightsEach, List.all_append, Bool.and_eq_true] at hx
    obtain ⟨A, l, c, h1, h2, h3⟩ := opens_bytes w f0 hx.1
    obtain ⟨B, m, d, g1, g2, g3⟩ := opens_pairs w f1 hx.2.1
    simp at h1 g1
    subst h1 g1
    exact ⟨(l, m), A, c, B, d, rfl, h2, g2, h3, g3, opens_slice_cap Try.underlying22 f1⟩
theorem opens_tenants (w : World) {H : Type} {enc : TypeId × Value → H} {base : Nat} {spare : Nat → Bool} {held : Bool} {fuel : Nat} {cs : List Value} {x : DataW H × List MemPlace}
    (h : DataW.trod enc Try.prog w base spare held fuel 43 cs = some x) (hx : (x.1.weights Try.prog 43).all (· ≤ reachBytes) = true) :
    ∃ A l c, cs = [.slice A (l : List Tn).length c] ∧ Ts All w A l ∧ l.length * 48 ≤ 140737488355328 := by
  obtain ⟨A, l, c, h1, h2, h3⟩ := opens_slice (size := 2) Try.underlying43 (by kernel_rfl) (by decide) (opens_ten w) h hx
  have hb : Try.prog.bytesOf 122 = 48 := by kernel_rfl
  rw [hb] at h3
  exact ⟨A, l, c, h1, h2, by simp only [reachBytes] at *; omega⟩
end Go.Proofs.Ythhcdibimnifaaa
