/- What a pair put among pairs comes to. Plain facts, no program. -/
import Derived.Test.YthhcdibimnifaaaRange
namespace Go.Proofs.Ythhcdibimnifaaa
open Go.RowKit
set_option linter.unusedVariables false
set_option linter.unusedSimpArgs false

section
variable {β : Type}
/-- One round of PutOf: what has come out, and whether the pair is among it. -/
def putStep (p : List UInt8 × β) (s : List (List UInt8 × β) × Bool) (x : List UInt8 × β) : List (List UInt8 × β) × Bool :=
  let s1 := if !s.2 && !lt x.1 p.1 then (s.1 ++ [p], true) else s
  if x.1 == p.1 then s1 else (s1.1 ++ [x], s1.2)
def putFold (p : List UInt8 × β) (l : List (List UInt8 × β)) : List (List UInt8 × β) × Bool := l.foldl (putStep p) ([], false)
def putAll (p : List UInt8 × β) (l : List (List UInt8 × β)) : List (List UInt8 × β) := if (putFold p l).2 then (putFold p l).1 else (putFold p l).1 ++ [p]
theorem putFold_snoc {p : List UInt8 × β} {l : List (List UInt8 × β)} {k : Nat} (h : k < l.length) : putFold p (l.take (k + 1)) = putStep p (putFold p (l.take k)) l[k] := by
  unfold putFold
  rw [take_snoc l k h, List.foldl_append]
  rfl
theorem putStep_len (p : List UInt8 × β) (s : List (List UInt8 × β) × Bool) (x : List UInt8 × β) : (putStep p s x).1.length ≤ s.1.length + 2 := by
  unfold putStep
  by_cases h1 : (!s.2 && !lt x.1 p.1) = true <;> by_cases h2 : (x.1 == p.1) = true <;> simp [h1, h2]
theorem putFold_len (p : List UInt8 × β) (l : List (List UInt8 × β)) : ∀ k, k ≤ l.length → (putFold p (l.take k)).1.length ≤ 2 * k
  | 0, _ => by simp [putFold]
  | k + 1, h => by
    rw [putFold_snoc (by omega)]
    have := putStep_len p (putFold p (l.take k)) l[k]
    have := putFold_len p l k (by omega)
    omega
theorem putAll_len (p : List UInt8 × β) (l : List (List UInt8 × β)) : (putAll p l).length ≤ 2 * l.length + 1 := by
  have h := putFold_len p l l.length (Nat.le_refl _)
  rw [List.take_length] at h
  unfold putAll
  split
  · omega
  · rw [List.length_append, List.length_singleton]; omega
theorem fold_low {p : List UInt8 × β} : ∀ (xs acc : List (List UInt8 × β)), (∀ x ∈ xs, lt x.1 p.1 = true) → xs.foldl (putStep p) (acc, false) = (acc ++ xs, false)
  | [], acc, _ => by simp
  | x :: xs, acc, h => by
    have h1 := h x (by simp)
    have h2 : (x.1 == p.1) = false := by
      rw [beq_eq_false_iff_ne]
      intro e
      rw [e, lt_irrefl] at h1
      cases h1
    rw [List.foldl_cons, show putStep p (acc, false) x = (acc ++ [x], false) by simp [putStep, h1, h2], fold_low xs (acc ++ [x]) fun y hy => h y (by simp [hy])]
    simp
theorem fold_done {p : List UInt8 × β} : ∀ (xs acc : List (List UInt8 × β)), (∀ x ∈ xs, (x.1 == p.1) = false) → xs.foldl (putStep p) (acc, true) = (acc ++ xs, true)
  | [], acc, _ => by simp
  | x :: xs, acc, h => by
    have h2 := h x (by simp)
    rw [List.foldl_cons, show putStep p (acc, true) x = (acc ++ [x], true) by simp [putStep, h2], fold_done xs (acc ++ [x]) fun y hy => h y (by simp [hy])]
    simp
theorem mem_take_at {l : List (List UInt8 × β)} {i : Nat} {x : List UInt8 × β} (h : x ∈ l.take i) : ∃ j, ∃ hj : j < l.length, j < i ∧ l[j] = x := by
  obtain ⟨j, hj, rfl⟩ := List.mem_iff_getElem.1 h
  rw [List.length_take] at hj
  exact ⟨j, by omega, by omega, by rw [List.getElem_take]⟩
theorem mem_drop_at {l : List (List UInt8 × β)} {i : Nat} {x : List UInt8 × β} (h : x ∈ l.drop i) : ∃ j, ∃ hj : j < l.length, i ≤ j ∧ l[j] = x := by
  obtain ⟨j, hj, rfl⟩ := List.mem_iff_getElem.1 h
  rw [List.length_drop] at hj
  exact ⟨i + j, by omega, by omega, by rw [List.getElem_drop]⟩
theorem putFold_split (p : List UInt8 × β) (l : List (List UInt8 × β)) (i : Nat) (hlow : ∀ j (_ : j < i) (h : j < (keys l).length), lt (keys l)[j] p.1 = true) : putFold p l = (l.drop i).foldl (putStep p) (l.take i, false) := by
  have e : putFold p l = (l.take i ++ l.drop i).foldl (putStep p) ([], false) := by rw [List.take_append_drop]; rfl
  rw [e, List.foldl_append, fold_low (l.take i) [] fun x hx => by
    obtain ⟨j, hj, hji, rfl⟩ := mem_take_at hx
    have := hlow j hji (by simpa [keys] using hj)
    rwa [keys_at] at this]
  simp
/-- The key is there: its pair is put anew. -/
theorem putAll_set {p : List UInt8 × β} {l : List (List UInt8 × β)} {i : Nat} (hr : Rise (keys l)) (hi : i < l.length) (hk : l[i].1 = p.1) : putAll p l = l.set i p := by
  have hlow : ∀ j (_ : j < i) (h : j < (keys l).length), lt (keys l)[j] p.1 = true := fun j hj h => by
    have := hr j i hj (by simpa [keys] using hi)
    rw [keys_at l i, hk] at this
    exact this
  have h1 : putStep p (l.take i, false) l[i] = (l.take i ++ [p], true) := by simp [putStep, hk, lt_irrefl]
  have hf : putFold p l = (l.take i ++ [p] ++ l.drop (i + 1), true) := by
    rw [putFold_split p l i hlow, List.drop_eq_getElem_cons hi, List.foldl_cons, h1]
    refine fold_done _ _ fun x hx => ?_
    obtain ⟨j, hj, hij, rfl⟩ := mem_drop_at hx
    rw [beq_eq_false_iff_ne]
    intro e
    have := rise_inj hr (i := j) (j := i) (by simpa [keys] using hj) (by simpa [keys] using hi) (by rw [keys_at, keys_at, e, hk])
    omega
  unfold putAll
  rw [hf, List.set_eq_take_append_cons_drop, if_pos hi]
  simp
/-- A pair among others, at i. -/
def ins {α : Type} (l : List α) (i : Nat) (x : α) : List α := l.take i ++ x :: l.drop i
/-- The key is not there: its pair comes in between. -/
theorem putAll_ins {p : List UInt8 × β} {l : List (List UInt8 × β)} {i : Nat} (hr : Rise (keys l)) (hat : At (keys l) p.1 i) (hk : (keys l)[i]? ≠ some p.1) : putAll p l = ins l i p := by
  have hne : ∀ j (hj : j < l.length), i ≤ j → (l[j].1 == p.1) = false := fun j hj hij => by
    have hjk : j < (keys l).length := by simpa [keys] using hj
    rw [beq_eq_false_iff_ne]
    intro e
    have ek : (keys l)[j] = p.1 := by rw [keys_at]; exact e
    rcases (by omega : i = j ∨ i < j) with h2 | h2
    · subst h2
      exact hk (by rw [List.getElem?_eq_getElem hjk, ek])
    · have h3 := hr i j h2 hjk
      rw [ek, hat.high i (Nat.le_refl _) (by omega)] at h3
      cases h3
  unfold putAll ins
  rw [putFold_split p l i hat.low]
  rcases Nat.lt_or_ge i l.length with hi | hi
  · have hlt : lt l[i].1 p.1 = false := by
      have := hat.high i (Nat.le_refl _) (by simpa [keys] using hi)
      rwa [keys_at] at this
    have h1 : putStep p (l.take i, false) l[i] = (l.take i ++ [p] ++ [l[i]], true) := by simp [putStep, hlt, hne i hi (Nat.le_refl _)]
    have hf : (l.drop i).foldl (putStep p) (l.take i, false) = (l.take i ++ [p] ++ l.drop i, true) := by
      rw [List.drop_eq_getElem_cons hi, List.foldl_cons, h1, fold_done _ _ fun x hx => ?_]
      · simp
      · obtain ⟨j, hj, hij, rfl⟩ := mem_drop_at hx
        exact hne j hj (by omega)
    rw [hf]
    simp
  · rw [List.drop_eq_nil_of_le hi]
    simp
theorem ins_len {α : Type} (l : List α) (i : Nat) (x : α) : (ins l i x).length = l.length + 1 := by
  unfold ins
  rw [List.length_append, List.length_cons, List.length_take, List.length_drop]
  omega
end
def ppFault (l : List Pr) (p : Pr) : Int := if pairsFaultS l ≠ 0 then pairsFaultS l else pairFaultS p
def putS (l : List Pr) (p : Pr) : List Pr × Int := if ppFault l p ≠ 0 then ([], ppFault l p) else if 60 < (putAll p l).length then ([], 11) else (putAll p l, 0)
theorem pp_fine {l : List Pr} {p : Pr} (h : ppFault l p = 0) : pairsFaultS l = 0 ∧ pairFaultS p = 0 := by
  unfold ppFault at h
  split at h
  · rename_i h1; exact absurd h h1
  · rename_i h1; exact ⟨by simpa using h1, h⟩
end Go.Proofs.Ythhcdibimnifaaa
