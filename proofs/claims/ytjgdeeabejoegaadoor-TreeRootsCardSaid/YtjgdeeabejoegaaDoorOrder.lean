/- The order of byte lists; lists of pairs that rise. Plain facts, no program. -/
import Derived.Test.YtjgdeeabejoegaaDoorPairs
namespace Go.Proofs.YtjgdeeabejoegaaDoor
open Go.RowKit
set_option linter.unusedVariables false
set_option linter.unusedSimpArgs false

theorem lt_irrefl : ∀ a : List UInt8, lt a a = false
  | [] => rfl
  | a :: x => by
    have ih := lt_irrefl x
    simp only [lt] at ih
    simp [lt, Op.bytesLess, ih]
theorem lt_trans : ∀ a b c : List UInt8, lt a b = true → lt b c = true → lt a c = true
  | _, [], _, h, _ => by simp [lt, Op.bytesLess] at h
  | _, _ :: _, [], _, h => by simp [lt, Op.bytesLess] at h
  | [], _ :: _, _ :: _, _, _ => by simp [lt, Op.bytesLess]
  | a :: x, b :: y, c :: z, h1, h2 => by
    have ih := lt_trans x y z
    simp only [lt, Op.bytesLess, Bool.or_eq_true, decide_eq_true_eq, Bool.and_eq_true, beq_iff_eq] at *
    rcases h1 with h1 | ⟨rfl, h1⟩ <;> rcases h2 with h2 | ⟨rfl, h2⟩
    · exact .inl (UInt8.lt_trans h1 h2)
    · exact .inl h1
    · exact .inl h2
    · exact .inr ⟨rfl, ih h1 h2⟩
theorem lt_tri : ∀ a b : List UInt8, lt a b = false → lt b a = false → a = b
  | [], [], _, _ => rfl
  | [], _ :: _, h, _ => by simp [lt, Op.bytesLess] at h
  | _ :: _, [], _, h => by simp [lt, Op.bytesLess] at h
  | a :: x, b :: y, h1, h2 => by
    have ih := lt_tri x y
    simp only [lt] at ih
    simp only [lt, Op.bytesLess, Bool.or_eq_false_iff, decide_eq_false_iff_not, Bool.and_eq_false_iff, beq_eq_false_iff_ne] at h1 h2
    have e : a = b := UInt8.le_antisymm (UInt8.not_lt.1 h2.1) (UInt8.not_lt.1 h1.1)
    subst e
    rw [ih (by simpa using h1.2) (by simpa using h2.2)]
theorem lt_asymm (a b : List UInt8) (h : lt a b = true) : lt b a = false := by
  rcases Bool.eq_false_or_eq_true (lt b a) with h' | h'
  · have := lt_trans a b a h h'
    rw [lt_irrefl] at this
    cases this
  · exact h'
theorem cmp3_neg {a b : List UInt8} (h : lt a b = true) : cmp3 a b < 0 := by simp [cmp3, h]
theorem cmp3_nonneg {a b : List UInt8} (h : lt a b = false) : 0 ≤ cmp3 a b := by simp only [cmp3, h]; simp; split <;> omega
theorem cmp3_zero (a b : List UInt8) : (cmp3 a b == 0) = (a == b) := by
  by_cases h : a = b
  · subst h
    simp [cmp3, lt_irrefl]
  · simp only [cmp3]
    split
    · simp [h]
    · simp [h]

/-- The keys rise. -/
def Rise (ks : List (List UInt8)) : Prop := ∀ i j (hi : i < j) (hj : j < ks.length), lt (ks[i]'(by omega)) ks[j] = true
theorem rise_of_steps {ks : List (List UInt8)} (h : ∀ i (hi : i + 1 < ks.length), lt ks[i] ks[i + 1] = true) : Rise ks := by
  intro i j hi hj
  induction j with
  | zero => omega
  | succ j ih =>
    by_cases e : i = j
    · subst e; exact h i hj
    · exact lt_trans _ _ _ (ih (by omega) (by omega)) (h j hj)
theorem firstBad_zero {f : Nat → Int} : ∀ (n k : Nat), firstBad f n k = 0 → ∀ i, i < n → f (k + i) = 0
  | 0, _, _, i, hi => absurd hi (by omega)
  | n + 1, k, h, i, hi => by
    unfold firstBad at h
    split at h
    · rename_i hne; exact absurd h hne
    · rename_i hz
      rcases i with _ | i
      · simpa using hz
      · have := firstBad_zero n (k + 1) h i (by omega)
        rw [show k + (i + 1) = k + 1 + i by omega]
        exact this
/-- What it means that nothing is refused of pairs. -/
theorem pairs_fine {l : List Pr} (h : pairsFaultS l = 0) : l.length ≤ 60 ∧ (∀ p ∈ l, pairFaultS p = 0) ∧ Rise (l.map (·.1)) := by
  unfold pairsFaultS at h
  split at h
  · simp at h
  · rename_i hl
    have hz := firstBad_zero _ _ h
    have hp : ∀ i (hi : i < l.length), pairFaultS l[i] = 0 := fun i hi => by
      have := hz i hi
      rw [Nat.zero_add] at this
      by_cases hb : pairFaultS l[i] = 0
      · exact hb
      · rw [pairAt_bad hi hb] at this; exact this
    refine ⟨by omega, fun p hp' => ?_, rise_of_steps fun i hi => ?_⟩
    · obtain ⟨i, hi, rfl⟩ := List.getElem_of_mem hp'
      exact hp i hi
    · have hi' : i + 1 < l.length := by simpa using hi
      simp only [List.getElem_map]
      have := hz (i + 1) hi'
      rw [Nat.zero_add] at this
      rcases Bool.eq_false_or_eq_true (lt l[i].1 l[i + 1].1) with ho | ho
      · exact ho
      · rw [pairAt_order hi' (hp _ hi') ho] at this
        cases this
/-- Where a key is, or would be: at i, among keys that rise. -/
structure At (ks : List (List UInt8)) (k : List UInt8) (i : Nat) : Prop where
  le : i ≤ ks.length
  low : ∀ j (_ : j < i) (h : j < ks.length), lt ks[j] k = true
  high : ∀ j (_ : i ≤ j) (h : j < ks.length), lt ks[j] k = false
theorem low_of {ks : List (List UInt8)} (hr : Rise ks) {m : Nat} {k : List UInt8} (hm : m < ks.length) (h : lt ks[m] k = true) : ∀ j (_ : j < m + 1) (hj : j < ks.length), lt ks[j] k = true := by
  intro j h1 hj
  rcases (by omega : j < m ∨ j = m) with h2 | rfl
  · exact lt_trans _ _ _ (hr j m h2 hm) h
  · exact h
theorem high_of {ks : List (List UInt8)} (hr : Rise ks) {m : Nat} {k : List UInt8} (hm : m < ks.length) (h : lt ks[m] k = false) : ∀ j (_ : m ≤ j) (hj : j < ks.length), lt ks[j] k = false := by
  intro j h1 hj
  rcases (by omega : m < j ∨ j = m) with h2 | rfl
  · rcases Bool.eq_false_or_eq_true (lt ks[j] k) with h3 | h3
    · rw [lt_trans _ _ _ (hr m j h2 hj) h3] at h; cases h
    · exact h3
  · exact h
end Go.Proofs.YtjgdeeabejoegaaDoor
