/- Requests: words for memory; what is wrong with one. -/
import Derived.Test.YtddppmhpdgecgaaDoorPairs
import Derived.Test.YtddppmhpdgecgaaDoorKeyLaws
namespace Go.Proofs.YtddppmhpdgecgaaDoor
open Go.RowKit
set_option linter.unusedVariables false
set_option linter.unusedSimpArgs false

structure Rq where
  kind : Int
  name : List UInt8
  key : List UInt8
  last : List UInt8
  value : List UInt8
/-- The five cells of a request. -/
def RqR (S : Nat → Prop) (w : World) (cs : List Value) (r : Rq) : Prop :=
  ∃ A a B b C c D d, cs = [.int .i64 r.kind, .slice A r.name.length a, .slice B r.key.length b, .slice C r.last.length c, .slice D r.value.length d] ∧ Bs S w A r.name ∧ Bs S w B r.key ∧ Bs S w C r.last ∧ Bs S w D r.value ∧ r.name.length ≤ big ∧ r.key.length ≤ big ∧ r.last.length ≤ big ∧ r.value.length ≤ big
theorem box5 {w : World} {g : Nat} {t : TypeId} {a b c d e : Value} (h : w.heap[g]? = some (.cells #[a, b, c, d, e] t (0, 0))) :
    (w.cell? ⟨g, 0, none⟩ = some a ∧ w.cell? ⟨g, 1, none⟩ = some b ∧ w.cell? ⟨g, 2, none⟩ = some c ∧ w.cell? ⟨g, 3, none⟩ = some d ∧ w.cell? ⟨g, 4, none⟩ = some e) ∧ (w.frozen? ⟨g, 0, none⟩ = false ∧ w.frozen? ⟨g, 1, none⟩ = false ∧ w.frozen? ⟨g, 2, none⟩ = false ∧ w.frozen? ⟨g, 3, none⟩ = false ∧ w.frozen? ⟨g, 4, none⟩ = false) :=
  ⟨⟨box_cell (cs := [a, b, c, d, e]) h 0, box_cell (cs := [a, b, c, d, e]) h 1, box_cell (cs := [a, b, c, d, e]) h 2, box_cell (cs := [a, b, c, d, e]) h 3, box_cell (cs := [a, b, c, d, e]) h 4⟩, box_frozen (cs := [a, b, c, d, e]) h 0, box_frozen (cs := [a, b, c, d, e]) h 1, box_frozen (cs := [a, b, c, d, e]) h 2, box_frozen (cs := [a, b, c, d, e]) h 3, box_frozen (cs := [a, b, c, d, e]) h 4⟩
/-- The parts that a kind of request has: bits of the table 'has'. -/
def hasT : List Nat := [0, 0, 3, 7, 11, 3, 0, 0, 3]
def hasS (k : Nat) : Nat := hasT.getD k 0
def named (k : Nat) : Bool := hasS k != 0
/-- What is wrong with what stands in a request of parts h. -/
def partAt (r : Rq) (i : Nat) : List UInt8 := if i = 0 then r.name else if i = 1 then r.key else if i = 2 then r.last else r.value
def partF (h : Nat) (r : Rq) (i : Nat) : Int := if h / 2 ^ i % 2 = 0 ∧ 0 < (partAt r i).length then 4 else 0
def partsFault (h : Nat) (r : Rq) : Int := firstBad (partF h r) 4 0
theorem part_step {h : Nat} {r : Rq} {j m : Nat} (hm : m = 3 - j) (hj : j < 4) (he : partF h r j = 0) : firstBad (partF h r) (4 - j) j = firstBad (partF h r) m (j + 1) := by
  subst hm
  rw [show 4 - j = 3 - j + 1 by omega, firstBad, if_neg (by simpa using he)]
theorem part_has {h : Nat} {r : Rq} {j : Nat} (hj : j < 4) (hb : h / 2 ^ j % 2 = 1) : firstBad (partF h r) (4 - j) j = firstBad (partF h r) (4 - (j + 1)) (j + 1) :=
  part_step (by omega) hj (by unfold partF; rw [if_neg (by omega)])
theorem part_none {h : Nat} {r : Rq} {j : Nat} (hj : j < 4) (hp : ¬ 0 < (partAt r j).length) : firstBad (partF h r) (4 - j) j = firstBad (partF h r) (4 - (j + 1)) (j + 1) :=
  part_step (by omega) hj (by unfold partF; rw [if_neg (by omega)])
theorem part_bad {h : Nat} {r : Rq} {j : Nat} (hj : j < 4) (hb : h / 2 ^ j % 2 = 0) (hp : 0 < (partAt r j).length) : firstBad (partF h r) (4 - j) j = 4 := by
  have e : partF h r j = 4 := by unfold partF; rw [if_pos ⟨hb, hp⟩]
  rw [show 4 - j = 3 - j + 1 by omega, firstBad, if_pos (by rw [e]; decide), e]
def namesFault (h : Nat) (r : Rq) : Int :=
  if h % 2 = 0 then 0 else if nameFault r.name ≠ 0 then nameFault r.name else if keyFault r.key ≠ 0 then keyFault r.key else if h / 4 % 2 = 0 then 0 else keyFault r.last
def bodyFault (h : Nat) (r : Rq) : Int := if namesFault h r ≠ 0 then namesFault h r else if 32 < r.value.length then 1 else partsFault h r
/-- What wire.Check and RequestFault answer. -/
def rqFault (r : Rq) : Int := if ¬ (1 ≤ r.kind ∧ r.kind ≤ 8) then 5 else bodyFault (hasS r.kind.toNat) r
end Go.Proofs.YtddppmhpdgecgaaDoor
