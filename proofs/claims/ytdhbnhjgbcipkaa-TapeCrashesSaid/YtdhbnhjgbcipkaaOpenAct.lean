/- From the form's reading of arguments to the words of Core: acts, tapes. -/
import Derived.Test.YtdhbnhjgbcipkaaOpen
namespace Go.Proofs.Ytdhbnhjgbcipkaa
open Go.RowKit Go.ChangeShapes Go.WideShapes Go.ChangeAt Go.Deep

theorem opens_int (w : World) {H : Type} {enc : TypeId × Value → H} {base : Nat} {spare : Nat → Bool} {held : Bool} {fuel : Nat} {cs : List Value} {x : DataW H × List MemPlace}
    (h : DataW.trod enc Try.prog w base spare held fuel 3 cs = some x) : ∃ n, cs = [.int .i64 n] ∧ -9223372036854775808 ≤ n ∧ n ≤ 9223372036854775807 := by
  obtain ⟨n, rfl, _, hw⟩ := DataW.trod_int Try.underlying3 h
  exact ⟨n, rfl, bounds_i64 hw⟩
structure Act1 where
  kind : Int
  session : Int
  keep : Int
  data : List UInt8
/-- The four cells of an act. -/
def ActR (S : Nat → Prop) (w : World) (cs : List Value) (a : Act1) : Prop :=
  ∃ A c, cs = [.int .i64 a.kind, .int .i64 a.session, .int .i64 a.keep, .slice A a.data.length c] ∧ Bs S w A a.data ∧ a.data.length ≤ big
set_option maxRecDepth 100000 in
theorem opens_act (w : World) : Opens ActR w 32 := by
  intro H enc base spare held fuel cs x h hx
  obtain ⟨xs, n, _, rfl, hcl, hxl, hf⟩ := DataW.trod_struct Try.underlying32 h
  have hC : Try.prog.cellsOf 32 = 4 := by kernel_rfl
  have hCb : Try.prog.cellsOf 27 = 1 := by kernel_rfl
  have hCi : Try.prog.cellsOf 3 = 1 := by kernel_rfl
  rw [hC] at hcl
  match xs, hxl, cs, hcl with
  | [y0, y1, y2, y3], _, [c0, c1, c2, c3], _ =>
    have f0 : DataW.trod enc Try.prog w base spare held n 3 [c0] = some y0 := by have h := hf 0 _ rfl; simpa [hCi] using h
    have f1 : DataW.trod enc Try.prog w base spare held n 3 [c1] = some y1 := by have h := hf 1 _ rfl; simpa [hCi] using h
    have f2 : DataW.trod enc Try.prog w base spare held n 3 [c2] = some y2 := by have h := hf 2 _ rfl; simpa [hCi] using h
    have f3 : DataW.trod enc Try.prog w base spare held n 27 [c3] = some y3 := by have h := hf 3 _ rfl; simpa [hCb] using h
    simp only [DataW.weights, Try.underlying32, List.map_cons, List.map_nil, DataW.weightsEach, List.all_append, Bool.and_eq_true] at hx
    obtain ⟨m0, g0, _⟩ := opens_int w f0
    obtain ⟨m1, g1, _⟩ := opens_int w f1
    obtain ⟨m2, g2, _⟩ := opens_int w f2
    obtain ⟨B, m, d, g3, h2, h3⟩ := opens_bytes w f3 hx.2.2.2.1
    simp at g0 g1 g2 g3
    subst g0 g1 g2 g3
    exact ⟨⟨m0, m1, m2, m⟩, B, d, rfl, h2, h3⟩
end Go.Proofs.Ytdhbnhjgbcipkaa
