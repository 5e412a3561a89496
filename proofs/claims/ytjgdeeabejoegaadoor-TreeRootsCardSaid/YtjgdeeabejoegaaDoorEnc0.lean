/- Walks: bytes behind their length. -/
import Derived.Test.YtjgdeeabejoegaaDoorBytes
namespace Go.Proofs.YtjgdeeabejoegaaDoor
open Go.RowKit
set_option linter.unusedVariables false
set_option linter.unusedSimpArgs false

/-- The blocks below n. -/
def Lo (n : Nat) (b : Nat) : Prop := b < n
theorem SL.low {α : Type} {size : Nat} {R : (Nat → Prop) → World → List Value → α → Prop} (hR : Stays R) {S : Nat → Prop} {w : World} {A : Option Addr} {l : List α} {n : Nat} (h : SL size R S w A l) (hn : w.heap.size ≤ n) : SL size R (Lo n) w A l :=
  h.less hR fun b hb _ => Nat.lt_of_lt_of_le hb hn
theorem Same.of_low {n : Nat} {w w' : World} (h : Below n w w') : Same (Lo n) w w' := ⟨h.size, fun k hk _ => h.block k hk⟩
/-- A block of bytes reads so. -/
theorem bs_block {S : Nat → Prop} {w : World} {g : Nat} {t : TypeId} {l : List UInt8} (h : w.heap[g]? = some (.cells (l.map bv).toArray t (0, 0))) (hS : S g) : Bs S w (some ⟨g, 0, none⟩) l := by
  intro _
  refine ⟨g, 0, rfl, hS, (Array.getElem?_eq_some_iff.1 h).1, fun i hi => ⟨[bv l[i]], rfl, fun j hj => ?_, rfl⟩⟩
  obtain rfl : j = 0 := by omega
  have := box_cell h (0 + i * 1 + 0)
  rw [this]
  simp [hi]
/-- Bytes behind their length. -/
def lpS (p : List UInt8) : List UInt8 := UInt8.ofNat p.length :: p
theorem lp_len (p : List UInt8) : (lpS p).length = p.length + 1 := rfl
theorem wrap_u8 (n : Nat) : IntKind.u8.wrap (n : Int) = ((UInt8.ofNat n).toNat : Int) := by
  simp [IntKind.wrap, IntKind.bits, IntKind.signed]
/-- The call appends onto a row of the caller's. -/
def RetApp (base : Nat) (w : World) (v : Value) (l : List UInt8) (e : Ending) (w' : World) : Prop :=
  ∃ v', e = .returned v' ∧ w'.ownsRow base 5 1 v' l.length (l.map bv) ∧ Below base w w' ∧ Same (fun b => b < w.heap.size ∧ v.ownBlock ≠ some b) w w' ∧ (∀ b, b < w.heap.size → v.ownBlock ≠ some b → v'.ownBlock ≠ some b)
end Go.Proofs.YtjgdeeabejoegaaDoor
