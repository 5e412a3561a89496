/- OpenC: From the form's reading of arguments to the words of Core: writes. From the form's reading of arguments to the words of Core: commits. The conditions of each are in its words. -/
import Derived.Test.YthohkgggodhbcaaGreatKOpenA
import Derived.Test.YthohkgggodhbcaaGreatKForestW
import Derived.Test.YthohkgggodhbcaaGreatKCommit
namespace Go.Proofs.YthohkgggodhbcaaGreat
open Go.RowKit Go.ChangeShapes Go.WideShapes Go.ChangeAt Go.Deep
set_option linter.unusedVariables false
set_option linter.unusedSimpArgs false

/-- A field that is a bool. -/
theorem opens_bool (w : World) {H : Type} {enc : TypeId × Value → H} {base : Nat} {spare : Nat → Bool} {held : Bool} {fuel : Nat} {cs : List Value} {x : DataW H × List MemPlace}
    (h : DataW.trod enc Tryz.prog w base spare held fuel 4 cs = some x) : ∃ b, cs = [.bool b] := by
  obtain ⟨b, rfl, _⟩ := DataW.trod_bool Tryz.underlying4 h
  exact ⟨b, rfl⟩
set_option maxRecDepth 100000 in
theorem opens_wr (w : World) : Opens WrR w 40 := by
  intro H enc base spare held fuel cs x h hx
  obtain ⟨xs, n, _, rfl, hcl, hxl, hf⟩ := DataW.trod_struct Tryz.underlying40 h
  have hC : Tryz.prog.cellsOf 40 = 4 := by kernel_rfl
  have hCb : Tryz.prog.cellsOf 38 = 1 := by kernel_rfl
  have hCo : Tryz.prog.cellsOf 4 = 1 := by kernel_rfl
  rw [hC] at hcl
  match xs, hxl, cs, hcl with
  | [y0, y1, y2, y3], _, [c0, c1, c2, c3], _ =>
    have f0 : DataW.trod enc Tryz.prog w base spare held n 38 [c0] = some y0 := by have h := hf 0 _ rfl; simpa [hCb] using h
    have f1 : DataW.trod enc Tryz.prog w base spare held n 38 [c1] = some y1 := by have h := hf 1 _ rfl; simpa [hCb] using h
    have f2 : DataW.trod enc Tryz.prog w base spare held n 4 [c2] = some y2 := by have h := hf 2 _ rfl; simpa [hCb, hCo] using h
    have f3 : DataW.trod enc Tryz.prog w base spare held n 38 [c3] = some y3 := by have h := hf 3 _ rfl; simpa [hCb, hCo] using h
    simp only [DataW.weights, Tryz.underlying40, List.map_cons, List.map_nil, DataW.weightsEach, List.all_append, Bool.and_eq_true] at hx
    obtain ⟨A, a, ca, g0, h1, h2⟩ := opens_bytes w f0 hx.1
    obtain ⟨B, b, cb, g1, h3, h4⟩ := opens_bytes w f1 hx.2.1
    obtain ⟨o, g2⟩ := opens_bool w f2
    obtain ⟨C, c, cc, g3, h5, h6⟩ := opens_bytes w f3 hx.2.2.2.1
    simp at g0 g1 g2 g3
    subst g0 g1 g2 g3
    exact ⟨⟨a, b, o, c⟩, A, ca, B, cb, C, cc, rfl, h1, h3, h5, h2, h4, h6⟩
theorem opens_writes (w : World) {H : Type} {enc : TypeId × Value → H} {base : Nat} {spare : Nat → Bool} {held : Bool} {fuel : Nat} {cs : List Value} {x : DataW H × List MemPlace}
    (h : DataW.trod enc Tryz.prog w base spare held fuel 24 cs = some x) (hx : (x.1.weights Tryz.prog 24).all (· ≤ reachBytes) = true) :
    ∃ A l c, cs = [.slice A (l : List Wr).length c] ∧ Ws All w A l ∧ l.length * 80 ≤ 140737488355328 := by
  obtain ⟨A, l, c, h1, h2, h3⟩ := opens_slice (size := 4) Tryz.underlying24 (by kernel_rfl) (by decide) (opens_wr w) h hx
  have hb : Tryz.prog.bytesOf 40 = 80 := by kernel_rfl
  rw [hb] at h3
  exact ⟨A, l, c, h1, h2, by simp only [reachBytes] at *; omega⟩
end Go.Proofs.YthohkgggodhbcaaGreat
namespace Go.Proofs.YthohkgggodhbcaaGreat
open Go.RowKit Go.ChangeShapes Go.WideShapes Go.ChangeAt Go.Deep
set_option linter.unusedVariables false
set_option linter.unusedSimpArgs false

theorem opens_intC (w : World) {H : Type} {enc : TypeId × Value → H} {base : Nat} {spare : Nat → Bool} {held : Bool} {fuel : Nat} {cs : List Value} {x : DataW H × List MemPlace}
    (h : DataW.trod enc Tryz.prog w base spare held fuel 3 cs = some x) : ∃ n, cs = [.int .i64 n] ∧ -9223372036854775808 ≤ n ∧ n ≤ 9223372036854775807 := by
  obtain ⟨n, rfl, _, hw⟩ := DataW.trod_int Tryz.underlying3 h
  exact ⟨n, rfl, bounds_i64 hw⟩
set_option maxRecDepth 100000 in
theorem opens_commit (w : World) : Opens CmR w 32 := by
  intro H enc base spare held fuel cs x h hx
  obtain ⟨xs, n, _, rfl, hcl, hxl, hf⟩ := DataW.trod_struct Tryz.underlying32 h
  have hC : Tryz.prog.cellsOf 32 = 2 := by kernel_rfl
  have hCb : Tryz.prog.cellsOf 24 = 1 := by kernel_rfl
  have hCi : Tryz.prog.cellsOf 3 = 1 := by kernel_rfl
  rw [hC] at hcl
  match xs, hxl, cs, hcl with
  | [y0, y1], _, [c0, c1], _ =>
    have f0 : DataW.trod enc Tryz.prog w base spare held n 3 [c0] = some y0 := by have h := hf 0 _ rfl; simpa [hCi] using h
    have f1 : DataW.trod enc Tryz.prog w base spare held n 24 [c1] = some y1 := by have h := hf 1 _ rfl; simpa [hCi, hCb] using h
    simp only [DataW.weights, Tryz.underlying32, List.map_cons, List.map_nil, DataW.weightsEach, List.all_append, Bool.and_eq_true] at hx
    obtain ⟨m0, g0, _⟩ := opens_intC w f0
    obtain ⟨B, m, d, g1, h2, h3⟩ := opens_writes w f1 hx.2.1
    simp at g0 g1
    subst g0 g1
    exact ⟨(m0, m), B, d, rfl, h2, h3⟩
theorem opens_commits (w : World) {H : Type} {enc : TypeId × Value → H} {base : Nat} {spare : Nat → Bool} {held : Bool} {fuel : Nat} {cs : List Value} {x : DataW H × List MemPlace}
    (h : DataW.trod enc Tryz.prog w base spare held fuel 22 cs = some x) (hx : (x.1.weights Tryz.prog 22).all (· ≤ reachBytes) = true) :
    ∃ A l c, cs = [.slice A (l : List Cm).length c] ∧ Cs All w A l ∧ l.length * 32 ≤ 140737488355328 := by
  obtain ⟨A, l, c, h1, h2, h3⟩ := opens_slice (size := 2) Tryz.underlying22 (by kernel_rfl) (by decide) (opens_commit w) h hx
  have hb : Tryz.prog.bytesOf 32 = 32 := by kernel_rfl
  rw [hb] at h3
  exact ⟨A, l, c, h1, h2, by simp only [reachBytes] at *; omega⟩
end Go.Proofs.YthohkgggodhbcaaGreat
