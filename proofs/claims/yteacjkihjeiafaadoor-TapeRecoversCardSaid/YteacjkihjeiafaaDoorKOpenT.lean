/- OpenT: From the form's reading of arguments to the words of Core: acts, tapes. From the form's reading of arguments to the words of Core: tapes. The conditions of each are in its words. -/
import Derived.Test.YteacjkihjeiafaaDoorKOpenA
import Derived.Test.YteacjkihjeiafaaDoorKTapeK
namespace Go.Proofs.YteacjkihjeiafaaDoor
open Go.RowKit Go.ChangeShapes Go.WideShapes Go.ChangeAt Go.Deep
set_option linter.unusedVariables false
set_option linter.unusedSimpArgs false

theorem opens_int (w : World) {H : Type} {enc : TypeId × Value → H} {base : Nat} {spare : Nat → Bool} {held : Bool} {fuel : Nat} {cs : List Value} {x : DataW H × List MemPlace}
    (h : DataW.trod enc Tryd.prog w base spare held fuel 3 cs = some x) : ∃ n, cs = [.int .i64 n] ∧ -9223372036854775808 ≤ n ∧ n ≤ 9223372036854775807 := by
  obtain ⟨n, rfl, _, hw⟩ := DataW.trod_int Tryd.underlying3 h
  exact ⟨n, rfl, bounds_i64 hw⟩
structure Act1 where
  kind : Int
  session : Int
  keep : Int
  data : List UInt8
/-- The four cells of an act. -/
def ActR (S : Nat → Prop) (w : World) (cs : List Value) (a : Act1) : Prop :=
  ∃ A c, cs = [.int .i64 a.kind, .int .i64 a.session, .int .i64 a.keep, .slice A a.data.length c] ∧ Bs S w A a.data ∧ a.data.length ≤ big
end Go.Proofs.YteacjkihjeiafaaDoor
namespace Go.Proofs.YteacjkihjeiafaaDoor
open Go.RowKit Go.ChangeShapes Go.WideShapes Go.ChangeAt Go.Deep
set_option linter.unusedVariables false
set_option linter.unusedSimpArgs false

theorem opens_slice_capT {H : Type} {enc : TypeId × Value → H} {w : World} {base : Nat} {spare : Nat → Bool} {held : Bool} {fuel : Nat} {x : DataW H × List MemPlace} {T E : TypeId} (hT : Tryd.prog.underlying T = some (.slice E)) {A : Option Addr} {n c : Nat}
    (h : DataW.trod enc Tryd.prog w base spare held fuel T [.slice A n c] = some x) : n ≤ c := by
  rcases open_slice hT h with ⟨h0, _⟩ | ⟨a, len, cap, m, _, D, Pl, h0, _, hl, _⟩
  · simp at h0; omega
  · simp at h0; omega
set_option maxRecDepth 100000 in
theorem opens_tape (w : World) : Opens TapeR w 45 := by
  intro H enc base spare held fuel cs x h hx
  obtain ⟨xs, n, _, rfl, hcl, hxl, hf⟩ := DataW.trod_struct Tryd.underlying45 h
  have hC : Tryd.prog.cellsOf 45 = 2 := by kernel_rfl
  have hCb : Tryd.prog.cellsOf 22 = 1 := by kernel_rfl
  have hCi : Tryd.prog.cellsOf 3 = 1 := by kernel_rfl
  rw [hC] at hcl
  match xs, hxl, cs, hcl with
  | [y0, y1], _, [c0, c1], _ =>
    have f0 : DataW.trod enc Tryd.prog w base spare held n 22 [c0] = some y0 := by have h := hf 0 _ rfl; simpa [hCb] using h
    have f1 : DataW.trod enc Tryd.prog w base spare held n 3 [c1] = some y1 := by have h := hf 1 _ rfl; simpa [hCi] using h
    simp only [DataW.weights, Tryd.underlying45, List.map_cons, List.map_nil, DataW.weightsEach, List.all_append, Bool.and_eq_true] at hx
    obtain ⟨B, m, d, g0, h2, h3⟩ := opens_bytes w f0 hx.1
    obtain ⟨m1, g1, _⟩ := opens_int w f1
    simp at g0 g1
    subst g0 g1
    exact ⟨(m, m1), B, d, rfl, opens_slice_capT Tryd.underlying22 f0, h2, h3⟩
end Go.Proofs.YteacjkihjeiafaaDoor
