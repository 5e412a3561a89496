/- TapeK: Walks: tapes synced and crashed. The walk of TapeSyncs. Walks: tapes crashed. The conditions of each are in its words. -/
import Derived.OpenShut
import Derived.Test.YtjidppcfjkjjoaaDoorKBase
namespace Go.Proofs.YtjidppcfjkjjoaaDoor
open Go.RowKit
set_option linter.unusedVariables false
set_option linter.unusedSimpArgs false

abbrev Tp := List UInt8 × Int
/-- The two cells of a tape. -/
def TapeR (S : Nat → Prop) (w : World) (cs : List Value) (t : Tp) : Prop := ∃ A c, cs = [.slice A t.1.length c, .int .i64 t.2] ∧ t.1.length ≤ c ∧ Bs S w A t.1 ∧ t.1.length ≤ big
/-- The call returns a tape. -/
def RetTape (w : World) (t : Tp) (e : Ending) (w' : World) : Prop :=
  ∃ A c, e = .returned (.agg #[.slice A t.1.length c, .int .i64 t.2]) ∧ t.1.length ≤ c ∧ Bs (From w.heap.size) w' A t.1 ∧ Below w.heap.size w w'
/-- .. and a value. -/
def RetTapeV (w : World) (t : Tp) (v : Value) (e : Ending) (w' : World) : Prop :=
  ∃ A c, e = .returned (.tuple #[.agg #[.slice A t.1.length c, .int .i64 t.2], v]) ∧ t.1.length ≤ c ∧ Bs (From w.heap.size) w' A t.1 ∧ Below w.heap.size w w'
def mayS (t : Tp) : Bool := decide (0 ≤ t.2 ∧ t.2 ≤ t.1.length ∧ t.1.length ≤ 200000)
theorem mayS_iff (t : Tp) : mayS t = true ↔ (0 ≤ t.2 ∧ t.2 ≤ t.1.length ∧ t.1.length ≤ 200000) := by simp [mayS]
end Go.Proofs.YtjidppcfjkjjoaaDoor
namespace Go.Proofs.YtjidppcfjkjjoaaDoor
open Go.RowKit
set_option linter.unusedVariables false
set_option linter.unusedSimpArgs false

end Go.Proofs.YtjidppcfjkjjoaaDoor
namespace Go.Proofs.YtjidppcfjkjjoaaDoor
open Go.RowKit
set_option linter.unusedVariables false
set_option linter.unusedSimpArgs false

def crashN (t : Tp) (k : Int) : Nat := if k < t.1.length - t.2 then (t.2 + k).toNat else t.1.length
def crashS (t : Tp) (k : Int) : Tp × Int := if mayS t then (if k < 0 then (([], 0), 2) else ((t.1.take (crashN t k), (crashN t k : Int)), 0)) else (([], 0), 6)
theorem SL.top {α : Type} {size : Nat} {R : (Nat → Prop) → World → List Value → α → Prop} {S : Nat → Prop} {w : World} {A : Option Addr} {l : List α} (h : SL size R S w A l) (n : Nat) : SL size R S w A (l.take n) := by
  intro hl
  have hln : 0 < l.length := by rw [List.length_take] at hl; omega
  obtain ⟨b', off', e, h0, hlt, hi⟩ := h hln
  refine ⟨b', off', e, h0, hlt, fun j hj => ?_⟩
  have hj' : j < l.length := by rw [List.length_take] at hj; omega
  rw [List.getElem_take]
  exact hi j hj'
end Go.Proofs.YtjidppcfjkjjoaaDoor
