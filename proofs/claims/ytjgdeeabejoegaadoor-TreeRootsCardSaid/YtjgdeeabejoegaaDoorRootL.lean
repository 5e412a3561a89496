/- The root's plain words: parts that are short, the least bit at which pairs differ, the two sides. No program. -/
import Derived.Test.YtjgdeeabejoegaaDoorRootS
import Derived.Test.YtjgdeeabejoegaaDoorParts
import Derived.Test.YtjgdeeabejoegaaDoorRange
namespace Go.Proofs.YtjgdeeabejoegaaDoor
open Go.RowKit
set_option linter.unusedVariables false
set_option linter.unusedSimpArgs false

theorem partsT_join : ∀ (l : List (List UInt8)) (b : List UInt8), b.length + (l.flatMap len2).length ≤ 4000 → partsT b l = some (b ++ l.flatMap len2)
  | [], b, _ => by simp [partsT]
  | p :: r, b, h => by
    rw [List.flatMap_cons, List.length_append] at h
    have hp : (len2 p).length = p.length + 2 := by simp [len2]
    have hq : (b ++ hdr2 p ++ p).length = b.length + (len2 p).length := by simp [hdr2, len2] <;> omega
    rw [partsT_ok ⟨by omega, by omega⟩, partsT_join r _ (by rw [hq]; omega), List.flatMap_cons, List.append_assoc, List.append_assoc]
    rfl
theorem parts_join {k : UInt8} {l : List (List UInt8)} (h : 1 + (l.flatMap len2).length ≤ 4000) : partsS k l = (digS (joinS k l), 0) := parts_some (partsT_join l [k] (by simpa using h))
theorem parts_leaf {p : Pr} (h : p.1.length + p.2.length ≤ 3000) : partsS 1 [p.1, p.2] = (leafS p, 0) := parts_join (by simp [len2]; omega)
theorem parts_fork {bit : Int} {a b : List UInt8} (h : a.length + b.length ≤ 3000) : partsS 2 [[UInt8.ofNat bit.toNat], a, b] = (forkS bit a b, 0) := parts_join (by simp [len2]; omega)
theorem parts_zero : partsS 0 [] = (noneS, 0) := rfl

/-- Pairs that rise, of which each may be. -/
structure Tree (l : List Pr) : Prop where
  rise : Rise (l.map (·.1))
  key : ∀ p ∈ l, keyFault p.1 = 0
  val : ∀ p ∈ l, p.2.length ≤ 32
theorem tree_of {l : List Pr} (h : pairsFaultS l = 0) : Tree l := by
  obtain ⟨_, h2, h3⟩ := pairs_fine h
  refine ⟨h3, fun p hp => ?_, fun p hp => ?_⟩
  · have := h2 p hp
    unfold pairFaultS at this
    split at this
    · cases this
    · exact this
  · have := h2 p hp
    unfold pairFaultS at this
    split at this
    · cases this
    · omega
section
variable {l : List Pr}
theorem Tree.k16 (h : Tree l) {p : Pr} (hp : p ∈ l) : p.1.length ≤ 16 := key16 (h.key p hp)
theorem Tree.parts (h : Tree l) (h2 : 2 ≤ l.length) : ∃ d, Parts l d := parts_of h.rise (fun _ hp => h.k16 hp) h2
theorem Tree.take (h : Tree l) (n : Nat) : Tree (l.take n) := by
  refine ⟨fun i j hi hj => ?_, fun p hp => h.key p (List.mem_of_mem_take hp), fun p hp => h.val p (List.mem_of_mem_take hp)⟩
  simp only [List.length_map, List.length_take] at hj
  have := h.rise i j hi (by simp; omega)
  simpa using this
theorem Tree.drop (h : Tree l) (n : Nat) : Tree (l.drop n) := by
  refine ⟨fun i j hi hj => ?_, fun p hp => h.key p (List.mem_of_mem_drop hp), fun p hp => h.val p (List.mem_of_mem_drop hp)⟩
  simp only [List.length_map, List.length_drop] at hj
  have := h.rise (n + i) (n + j) (by omega) (by simp; omega)
  simpa using this
theorem rootF_next (n : Nat) (l : List Pr) : rootF (n + 1) l = if l.length = 0 then noneS else if l.length = 1 then leafS (l.getD 0 ([], [])) else forkS (partBit l) (rootF n (l.take (leftN l))) (rootF n (l.drop (leftN l))) := rfl
theorem root_zero (h : l.length = 0) : rootS l = noneS := by
  obtain rfl := List.eq_nil_of_length_eq_zero h
  rfl
theorem root_one (h : l.length = 1) : rootS l = leafS (l.getD 0 ([], [])) := by
  unfold rootS
  rw [h]
  unfold rootF
  rw [if_neg (by omega), if_pos h]
theorem root_two (h : Tree l) (h2 : 2 ≤ l.length) : rootS l = forkS (partBit l) (rootS (l.take (leftN l))) (rootS (l.drop (leftN l))) := by
  obtain ⟨d, hp⟩ := h.parts h2
  obtain ⟨g1, g2, _⟩ := left_lt hp h2
  obtain ⟨n, hn⟩ : ∃ n, l.length = n + 1 := ⟨l.length - 1, by omega⟩
  have ht := h.take (leftN l)
  have hd := h.drop (leftN l)
  show rootF l.length l = forkS (partBit l) (rootF (l.take (leftN l)).length (l.take (leftN l))) (rootF (l.drop (leftN l)).length (l.drop (leftN l)))
  rw [hn, rootF_next, if_neg (by omega), if_neg (by omega), root_more n (l.take (leftN l)).length _ ht.rise (fun _ hp => ht.k16 hp) (by rw [List.length_take]; omega) (Nat.le_refl _),
    root_more n (l.drop (leftN l)).length _ hd.rise (fun _ hp => hd.k16 hp) (by rw [List.length_drop]; omega) (Nat.le_refl _)]
theorem rootS_len (l : List Pr) : (rootS l).length = 32 := root_len _ _
end
/-- The least bit at which one of the first k pairs differs from the first one. -/
def bitMin (l : List Pr) : Nat → Int
  | 0 => 999
  | k + 1 => if k = 0 then 999 else if firstNot (l.getD 0 ([], [])).1 (l.getD k ([], [])).1 145 0 < bitMin l k then firstNot (l.getD 0 ([], [])).1 (l.getD k ([], [])).1 145 0 else bitMin l k
theorem getD_at {l : List Pr} {k : Nat} (h : k < l.length) : l.getD k ([], []) = l[k] := by simp [List.getD_eq_getElem?_getD, List.getElem?_eq_getElem h]
theorem bitMin_less {l : List Pr} {k : Nat} (h0 : 0 < k) (hk : k < l.length) (h : firstNot (l[0]'(by omega)).1 l[k].1 145 0 < bitMin l k) : bitMin l (k + 1) = firstNot (l[0]'(by omega)).1 l[k].1 145 0 := by
  rw [bitMin, if_neg (by omega), getD_at hk, getD_at (show 0 < l.length by omega), if_pos h]
theorem bitMin_stay {l : List Pr} {k : Nat} (h0 : 0 < k) (hk : k < l.length) (h : ¬ firstNot (l[0]'(by omega)).1 l[k].1 145 0 < bitMin l k) : bitMin l (k + 1) = bitMin l k := by
  rw [bitMin, if_neg (by omega), getD_at hk, getD_at (show 0 < l.length by omega), if_neg h]
theorem bitMin_ge {l : List Pr} {d : Nat} (h : Parts l d) : ∀ k, k ≤ l.length → (d : Int) ≤ bitMin l k
  | 0, _ => by have := h.d144; simp only [bitMin]; omega
  | k + 1, hk => by
    have ih := bitMin_ge h k (by omega)
    have h1 := h.d144
    unfold bitMin
    split
    · omega
    · obtain ⟨e, h2, h3, h4⟩ := h.least k (by omega) (by omega)
      rw [getD_at (show k < l.length by omega), getD_at (show 0 < l.length by omega), h4]
      split <;> omega
theorem bitMin_all {l : List Pr} {d : Nat} (h : Parts l d) (h2 : 2 ≤ l.length) : bitMin l l.length = d := by
  have h1 := bitMin_ge h l.length (Nat.le_refl _)
  obtain ⟨n, hn⟩ : ∃ n, l.length = n + 1 := ⟨l.length - 1, by omega⟩
  have h3 := h.last
  rw [hn] at h1 ⊢
  rw [hn, Nat.add_sub_cancel] at h3
  unfold bitMin at h1 ⊢
  rw [if_neg (by omega), h3] at h1 ⊢
  split at h1
  · rename_i h4; rw [if_pos h4]
  · rename_i h4; rw [if_neg h4]; omega
theorem sides_left {l : List Pr} {d : Nat} (h : Parts l d) (h2 : 2 ≤ l.length) : (l.filter fun p => !bitB p.1 d) = l.take (leftN l) := by
  obtain ⟨_, _, h3⟩ := left_lt h h2
  rw [filter_mid (fun p => !bitB p.1 d) l 0 (leftN l) (fun j hj => by simp only [h3 j hj]; by_cases hq : leftN l ≤ j <;> simp [hq] <;> omega)]
  simp
theorem sides_right {l : List Pr} {d : Nat} (h : Parts l d) (h2 : 2 ≤ l.length) : (l.filter fun p => bitB p.1 d) = l.drop (leftN l) := by
  obtain ⟨_, _, h3⟩ := left_lt h h2
  rw [filter_mid (fun p => bitB p.1 d) l (leftN l) l.length (fun j hj => by simp only [h3 j hj]; by_cases hq : leftN l ≤ j <;> simp [hq] <;> omega)]
  rw [List.take_of_length_le (by rw [List.length_drop]; exact Nat.le_refl _)]
end Go.Proofs.YtjgdeeabejoegaaDoor
