/- Walks: ranges of pairs. -/
import Derived.Test.YtjgdeeabejoegaaDoorGetRef
import Derived.Test.YtjgdeeabejoegaaDoorCopy
namespace Go.Proofs.YtjgdeeabejoegaaDoor
open Go.RowKit
set_option linter.unusedVariables false
set_option linter.unusedSimpArgs false

def inRange (f t : List UInt8) (p : Pr) : Bool := !lt p.1 f && !lt t p.1
/-- What Range and RangeOf answer. -/
def rangeFault (l : List Pr) (f t : List UInt8) : Int := if pairsFaultS l ≠ 0 then pairsFaultS l else if keyFault f ≠ 0 then keyFault f else keyFault t
def rangeS (l : List Pr) (f t : List UInt8) : List Pr × Int := if rangeFault l f t ≠ 0 then ([], rangeFault l f t) else (l.filter (inRange f t), 0)
/-- The call returns pairs and a number. -/
def RetPE (w : World) (r : List Pr × Int) (e : Ending) (w' : World) : Prop :=
  ∃ A c, e = .returned (.tuple #[.slice A r.1.length c, .int .i64 r.2]) ∧ r.1.length ≤ c ∧ Ps (From w.heap.size) w' A r.1 ∧ Below w.heap.size w w'
theorem filter_snoc {l : List Pr} {q : Pr → Bool} {k : Nat} (h : k < l.length) : (l.take (k + 1)).filter q = (l.take k).filter q ++ (if q l[k] then [l[k]] else []) := by
  rw [take_snoc l k h, List.filter_append]
  cases hq : q l[k] <;> simp [List.filter_cons, hq]

theorem filter_mid {α : Type} (q : α → Bool) : ∀ (l : List α) (a b : Nat), (∀ j (h : j < l.length), q l[j] = decide (a ≤ j ∧ j < b)) → l.filter q = (l.drop a).take (b - a)
  | [], a, b, _ => by simp
  | x :: l, a, b, h => by
    have h0 : q x = decide (a ≤ 0 ∧ 0 < b) := h 0 (by simp)
    have ih := filter_mid q l (a - 1) (b - 1) (fun j hj => by
      have := h (j + 1) (by simpa using hj)
      simp only [List.getElem_cons_succ] at this
      rw [this]
      exact decide_eq_decide.2 (by omega))
    rcases a with _ | a
    · rcases b with _ | b
      · have hq : q x = false := by rw [h0]; simp
        simp only [List.filter_cons, hq]
        simpa using ih
      · have hq : q x = true := by rw [h0]; simp
        simp only [List.filter_cons, hq, if_true]
        simpa using ih
    · have hq : q x = false := by rw [h0]; simp
      simp only [List.filter_cons, hq]
      rcases b with _ | b
      · simpa using ih
      · simpa using ih
theorem range_mid {l : List Pr} {f t : List UInt8} {i k k' : Nat} (hr : Rise (keys l)) (hi : At (keys l) f i) (hk : At (keys l) t k) (h' : k' = if (keys l)[k]? = some t then k + 1 else k) :
    l.filter (inRange f t) = (l.drop i).take (max i k' - i) := by
  have key : ∀ j (h : j < l.length), inRange f t l[j] = decide (i ≤ j ∧ j < k') := by
    intro j hj
    have hjk : j < (keys l).length := by simpa [keys] using hj
    have e : l[j].1 = (keys l)[j] := (keys_at l j hjk).symm
    unfold inRange
    rw [e]
    have h1 : (!lt (keys l)[j] f) = decide (i ≤ j) := by
      by_cases h : i ≤ j
      · rw [hi.high j h hjk]; simp [h]
      · rw [hi.low j (by omega) hjk]; simp [h]
    have h2 : (!lt t (keys l)[j]) = decide (j < k') := by
      by_cases h : j < k
      · rw [lt_asymm _ _ (hk.low j h hjk)]
        have : j < k' := by rw [h']; split <;> omega
        simp [this]
      · have h3 := hk.high j (by omega) hjk
        by_cases h4 : (keys l)[j] = t
        · have hkj : j = k := by
            rcases (by omega : j = k ∨ k < j) with h5 | h5
            · exact h5
            · have h6 := hr k j h5 hjk
              rw [h4, hk.high k (Nat.le_refl _) (by omega)] at h6
              cases h6
          subst hkj
          have : j < k' := by rw [h', if_pos (by rw [List.getElem?_eq_getElem hjk, h4])]; omega
          rw [h4, lt_irrefl]
          simp [this]
        · have h5 : lt t (keys l)[j] = true := by
            rcases Bool.eq_false_or_eq_true (lt t (keys l)[j]) with h6 | h6
            · exact h6
            · exact absurd (lt_tri _ _ h3 h6) h4
          have : ¬ j < k' := by
            rw [h']
            split
            · rename_i hs
              intro hlt
              have : j = k := by omega
              subst this
              rw [List.getElem?_eq_getElem hjk] at hs
              exact h4 (Option.some.inj hs)
            · exact h
          rw [h5]
          simp [this]
    rw [h1, h2, ← Bool.decide_and]
  rw [filter_mid _ l i k' key]
  congr 1
  omega
/-- A piece of a slice. -/
theorem SL.cut {α : Type} {size : Nat} {R : (Nat → Prop) → World → List Value → α → Prop} {S : Nat → Prop} {w : World} {b off : Nat} {l : List α} (h : SL size R S w (some ⟨b, off, none⟩) l) (i m : Nat) :
    SL size R S w (some ⟨b, off + i * size, none⟩) ((l.drop i).take m) := by
  intro hl
  have hln : 0 < l.length := by rw [List.length_take, List.length_drop] at hl; omega
  obtain ⟨b', off', e, h0, hlt, hi⟩ := h hln
  cases e
  refine ⟨b, off + i * size, rfl, h0, hlt, fun j hj => ?_⟩
  have hj' : i + j < l.length := by rw [List.length_take, List.length_drop] at hj; omega
  obtain ⟨cs, h1, h2, h3⟩ := hi (i + j) hj'
  refine ⟨cs, h1, fun n hn => ?_, ?_⟩
  · rw [← h2 n hn]
    congr 2
    rw [Nat.add_mul]
    omega
  · rw [List.getElem_take, List.getElem_drop]
    exact h3

theorem sub_ok {α : Type} {size : Nat} {R : (Nat → Prop) → World → List Value → α → Prop} {S : Nat → Prop} {w : World} {A : Option Addr} {l : List α} (h : SL size R S w A l) (i n : Nat) : SL size R S w (Option.map (fun x => x.add (i * size)) A) ((l.drop i).take n) := by
  intro hl
  obtain ⟨b, off, e, _⟩ := h (by rw [List.length_take, List.length_drop] at hl; omega)
  subst e
  have := h.cut i n hl
  rw [Option.map_some, add_at]
  exact this
theorem treeAll_at (w : World) (A : Option Addr) (n : Nat) (l : List Pr) (hl : n = l.length) (c : Nat) (ha : Ps All w A l) (hn : l.length * 48 ≤ 140737488355328) :
    Calls Tryd.prog 137 #[.slice A n c] w (RetSLc 2 PairR w l) := by
  subst hl
  exact treeAll_cap w A l c ha hn

end Go.Proofs.YtjgdeeabejoegaaDoor
