/- Root: Keys in order, and their bits; the root of pairs in plain words: no program. The root's plain words: parts that are short, the least bit at which pairs differ, the two sides. No program. Walks: the digests of a leaf and of a fork, in the program and in the document's answer. Keys and values are short. Walks: tree.parted and tree.root. Pairs that rise, of which each may be. The conditions of each are in its words. -/
import Derived.Test.YteacjkihjeiafaaDoorKBase
import Derived.Test.YteacjkihjeiafaaDoorKPath
import Derived.Test.YteacjkihjeiafaaDoorKKec
import Derived.Test.YteacjkihjeiafaaDoorKDigP
import Derived.Test.YteacjkihjeiafaaDoorKTrees
namespace Go.Proofs.YteacjkihjeiafaaDoor
open Go.RowKit
set_option linter.unusedVariables false
set_option linter.unusedSimpArgs false

theorem bitB_get (a : List UInt8) (n : Nat) : bitB a n = (bits a).getD n false := by
  unfold bitB all145
  by_cases h : n < (bits a).length
  · rw [List.getD_eq_getElem?_getD, List.getElem?_append_left h, List.getD_eq_getElem?_getD]
  · rw [List.getD_eq_getElem?_getD, List.getElem?_append_right (by omega), List.getElem?_replicate, List.getD_eq_getElem?_getD, List.getElem?_eq_none (by omega)]
    split <;> rfl
theorem bitB_nil (n : Nat) : bitB [] n = false := by rw [bitB_get]; rfl
theorem bitB_head (x : UInt8) (a : List UInt8) : bitB (x :: a) 0 = true := by rw [bitB_get]; rfl
theorem bitB_byte (x : UInt8) (a : List UInt8) {j : Nat} (h : j < 8) : bitB (x :: a) (j + 1) = bitN x.toNat j := by
  rw [bitB_get, show bits (x :: a) = some9 x 8 ++ bits a from rfl, List.getD_eq_getElem?_getD, List.getElem?_append_left (by rw [some9_len]; omega)]
  simp only [some9, List.getElem?_cons_succ, List.getElem?_map]
  rw [List.getElem?_range h]
  rfl
theorem bitB_tail (x : UInt8) (a : List UInt8) (n : Nat) : bitB (x :: a) (n + 9) = bitB a n := by
  rw [bitB_get, bitB_get, show bits (x :: a) = some9 x 8 ++ bits a from rfl, List.getD_eq_getElem?_getD, List.getElem?_append_right (by rw [some9_len]; omega), some9_len, List.getD_eq_getElem?_getD]
  congr 2
theorem bitB_far {a : List UInt8} {n : Nat} (h : 9 * a.length ≤ n) : bitB a n = false := by
  rw [bitB_get, List.getD_eq_getElem?_getD, List.getElem?_eq_none (by rw [bits_len]; exact h)]
  rfl
/-- The bits of a are less than those of b: at bit d. -/
def LessAt (a b : List UInt8) (d : Nat) : Prop := (∀ n, n < d → bitB a n = bitB b n) ∧ bitB a d = false ∧ bitB b d = true
theorem less_of_lt : ∀ a b : List UInt8, lt a b = true → ∃ d, LessAt a b d
  | [], [], h => by simp [lt, Op.bytesLess] at h
  | _ :: _, [], h => by simp [lt, Op.bytesLess] at h
  | [], y :: b, _ => ⟨0, fun n h => absurd h (by omega), bitB_nil 0, bitB_head y b⟩
  | x :: a, y :: b, h => by
    have ih := less_of_lt a b
    simp only [lt, Op.bytesLess, Bool.or_eq_true, decide_eq_true_eq, Bool.and_eq_true, beq_iff_eq] at h ih
    rcases h with h | ⟨rfl, h⟩
    · obtain ⟨h1, ⟨h2, h3⟩, h4⟩ := byte_first x.toNat x.toNat_lt y.toNat y.toNat_lt h
      refine ⟨byteFirst x.toNat y.toNat + 1, fun n hn => ?_, by rw [bitB_byte x a h1]; exact h2, by rw [bitB_byte y b h1]; exact h3⟩
      rcases n with _ | n
      · rw [bitB_head, bitB_head]
      · rw [bitB_byte x a (by omega), bitB_byte y b (by omega)]
        have := List.all_eq_true.1 h4 n (List.mem_range.2 (by omega))
        simpa using this
    · obtain ⟨d, h1, h2, h3⟩ := ih h
      refine ⟨d + 9, fun n hn => ?_, by rw [bitB_tail]; exact h2, by rw [bitB_tail]; exact h3⟩
      by_cases h9 : n < 9
      · rcases n with _ | n
        · rw [bitB_head, bitB_head]
        · rw [bitB_byte x a (by omega), bitB_byte x b (by omega)]
      · obtain ⟨m, rfl⟩ : ∃ m, n = m + 9 := ⟨n - 9, by omega⟩
        rw [bitB_tail, bitB_tail]
        exact h1 m (by omega)
theorem less_not {a b : List UInt8} {d e : Nat} (h : LessAt a b d) (h' : LessAt b a e) : False := by
  obtain ⟨h1, h2, h3⟩ := h
  obtain ⟨g1, g2, g3⟩ := h'
  rcases (by omega : d < e ∨ d = e ∨ e < d) with hd | hd | hd
  · rw [← g1 d hd, h3] at h2; cases h2
  · subst hd; rw [h3] at g2; cases g2
  · rw [← h1 e hd, g3] at g2; cases g2
theorem less_lt {a b : List UInt8} {d : Nat} (h : LessAt a b d) : lt a b = true := by
  rcases Bool.eq_false_or_eq_true (lt a b) with h1 | h1
  · exact h1
  · rcases Bool.eq_false_or_eq_true (lt b a) with h2 | h2
    · obtain ⟨e, he⟩ := less_of_lt b a h2
      exact (less_not h he).elim
    · have e := lt_tri a b h1 h2
      subst e
      have h3 := h.2.1
      rw [h.2.2] at h3
      cases h3
theorem less_145 {a b : List UInt8} {d : Nat} (h : LessAt a b d) (hb : b.length ≤ 16) : d < 144 := by
  rcases Nat.lt_or_ge d 144 with h1 | h1
  · exact h1
  · have := bitB_far (a := b) (n := d) (by omega)
    rw [h.2.2] at this
    cases this
theorem firstNot_less {a b : List UInt8} {d : Nat} (h : LessAt a b d) : ∀ n k, k ≤ d → d < k + n → firstNot a b n k = d := by
  intro n
  induction n with
  | zero => intro k h1 h2; omega
  | succ n ih =>
    intro k h1 h2
    unfold firstNot
    by_cases hk : k = d
    · subst hk
      rw [if_neg (by rw [h.2.1, h.2.2]; decide)]
    · rw [if_pos (h.1 k (by omega))]
      exact ih (k + 1) (by omega) (by omega)
theorem part_less {a b : List UInt8} {d : Nat} (h : LessAt a b d) (hb : b.length ≤ 16) : firstNot a b 145 0 = d := firstNot_less h 145 0 (by omega) (by have := less_145 h hb; omega)

/-- The bit at which pairs that rise part: that of the first and of the last. -/
def partBit (l : List Pr) : Int := firstNot (l.getD 0 ([], [])).1 (l.getD (l.length - 1) ([], [])).1 145 0
/-- How many stand on the left. -/
def leftN (l : List Pr) : Nat := l.findIdx fun p => bitB p.1 (partBit l).toNat
/-- Pairs that rise, two at least. -/
structure Parts (l : List Pr) (d : Nat) : Prop where
  bit : partBit l = d
  d144 : d < 144
  least : ∀ i (h : i < l.length), 0 < i → ∃ e : Nat, d ≤ e ∧ e < 144 ∧ firstNot (l[0]'(by omega)).1 l[i].1 145 0 = e
  last : firstNot (l.getD 0 ([], [])).1 (l.getD (l.length - 1) ([], [])).1 145 0 = d
  mono : ∀ i j (hi : i < j) (hj : j < l.length), bitB (l[i]'(by omega)).1 d = true → bitB l[j].1 d = true
  first : ∀ h : 0 < l.length, bitB l[0].1 d = false
  end' : ∀ h : 0 < l.length, bitB (l[l.length - 1]'(by omega)).1 d = true
theorem parts_of {l : List Pr} (hr : Rise (l.map (·.1))) (hk : ∀ p ∈ l, p.1.length ≤ 16) (h2 : 2 ≤ l.length) : ∃ d, Parts l d := by
  have hlt : ∀ i j (hi : i < j) (hj : j < l.length), lt (l[i]'(by omega)).1 l[j].1 = true := by
    intro i j hi hj
    have := hr i j hi (by simpa using hj)
    simpa using this
  have h16 : ∀ i (hi : i < l.length), l[i].1.length ≤ 16 := fun i hi => hk _ (List.getElem_mem hi)
  obtain ⟨d, hd⟩ := less_of_lt _ _ (hlt 0 (l.length - 1) (by omega) (by omega))
  have e0 : l.getD 0 ([], []) = l[0] := by simp [List.getD_eq_getElem?_getD, List.getElem?_eq_getElem (show 0 < l.length by omega)]
  have e1 : l.getD (l.length - 1) ([], []) = l[l.length - 1] := by simp [List.getD_eq_getElem?_getD, List.getElem?_eq_getElem (show l.length - 1 < l.length by omega)]
  have hbit : firstNot (l.getD 0 ([], [])).1 (l.getD (l.length - 1) ([], [])).1 145 0 = d := by rw [e0, e1]; exact part_less hd (h16 _ _)
  have hleast : ∀ i (h : i < l.length), 0 < i → ∃ e : Nat, d ≤ e ∧ LessAt l[0].1 l[i].1 e := by
    intro i h hi
    obtain ⟨e, he⟩ := less_of_lt _ _ (hlt 0 i hi h)
    refine ⟨e, ?_, he⟩
    rcases Nat.lt_or_ge e d with hed | hed
    · exfalso
      have hl : LessAt (l[l.length - 1]).1 l[i].1 e := ⟨fun n hn => by rw [← hd.1 n (by omega)]; exact he.1 n hn, by rw [← hd.1 e hed]; exact he.2.1, he.2.2⟩
      by_cases hi' : i = l.length - 1
      · subst hi'
        have h3 := hl.2.1
        rw [hl.2.2] at h3
        cases h3
      · obtain ⟨f, hf⟩ := less_of_lt _ _ (hlt i (l.length - 1) (by omega) (by omega))
        exact less_not hl hf
    · exact hed
  have hagree : ∀ i (h : i < l.length) n, n < d → bitB l[i].1 n = bitB l[0].1 n := by
    intro i h n hn
    by_cases hi : i = 0
    · subst hi; rfl
    · obtain ⟨e, he, hl⟩ := hleast i h (by omega)
      exact (hl.1 n (by omega)).symm
  refine ⟨d, hbit, less_145 hd (h16 _ _), fun i h hi => ?_, hbit, fun i j hi hj hb => ?_, fun _ => hd.2.1, fun _ => hd.2.2⟩
  · obtain ⟨e, he, hl⟩ := hleast i h hi
    exact ⟨e, he, less_145 hl (h16 _ _), part_less hl (h16 _ _)⟩
  · rcases Bool.eq_false_or_eq_true (bitB l[j].1 d) with h1 | h1
    · exact h1
    · exfalso
      obtain ⟨f, hf⟩ := less_of_lt _ _ (hlt i j hi hj)
      exact less_not ⟨fun n hn => by rw [hagree j hj n hn, hagree i (by omega) n hn], h1, hb⟩ hf
/-- A length, two bytes. -/
def len2 (p : List UInt8) : List UInt8 := UInt8.ofNat (p.length / 256) :: UInt8.ofNat p.length :: p
def joinS (k : UInt8) (ps : List (List UInt8)) : List UInt8 := k :: ps.flatMap len2
def leafS (p : Pr) : List UInt8 := digS (joinS 1 [p.1, p.2])
def forkS (bit : Int) (a b : List UInt8) : List UInt8 := digS (joinS 2 [[UInt8.ofNat bit.toNat], a, b])
def noneS : List UInt8 := digS [0]
/-- The root of pairs that rise: so many rounds at most. -/
def rootF : Nat → List Pr → List UInt8
  | 0, _ => noneS
  | n + 1, l => if l.length = 0 then noneS else if l.length = 1 then leafS (l.getD 0 ([], [])) else forkS (partBit l) (rootF n (l.take (leftN l))) (rootF n (l.drop (leftN l)))
theorem root_len : ∀ n l, (rootF n l).length = 32
  | 0, l => dig_len _
  | n + 1, l => by
    unfold rootF
    split
    · exact dig_len _
    · split <;> exact dig_len _
theorem left_lt {l : List Pr} {d : Nat} (h : Parts l d) (h2 : 2 ≤ l.length) : 1 ≤ leftN l ∧ leftN l ≤ l.length - 1 ∧ (∀ i (hi : i < l.length), bitB l[i].1 d = decide (leftN l ≤ i)) := by
  obtain rfl : d = (partBit l).toNat := by rw [h.bit]; rfl
  have hno : ∀ i (hi : i < l.length), i < leftN l → bitB l[i].1 (partBit l).toNat = false := by
    intro i hi hl
    have := List.not_of_lt_findIdx (xs := l) (p := fun p : Pr => bitB p.1 (partBit l).toNat) hl
    simpa using this
  have h1 : leftN l ≤ l.length - 1 := by
    rcases Nat.lt_or_ge (l.length - 1) (leftN l) with h3 | h3
    · have h4 := hno (l.length - 1) (by omega) h3
      rw [h.end' (by omega)] at h4
      cases h4
    · exact h3
  have h0 : ∀ i (hi : i < leftN l), bitB (l[i]'(by omega)).1 (partBit l).toNat = false := fun i hi => hno i (by omega) hi
  have h3 : bitB (l[leftN l]'(by omega)).1 (partBit l).toNat = true :=
    List.findIdx_getElem (xs := l) (p := fun p : Pr => bitB p.1 (partBit l).toNat) (w := by unfold leftN at h1; omega)
  refine ⟨?_, h1, fun i hi => ?_⟩
  · rcases Nat.eq_zero_or_pos (leftN l) with h4 | h4
    · have := h.first (by omega)
      have h5 : bitB (l[0]'(by omega)).1 (partBit l).toNat = true := by
        have := h3
        simp only [h4] at this
        exact this
      rw [h5] at this
      cases this
    · exact h4
  · by_cases hl : leftN l ≤ i
    · rw [decide_eq_true hl]
      by_cases he : leftN l = i
      · subst he; exact h3
      · exact h.mono (leftN l) i (by omega) hi h3
    · rw [decide_eq_false hl]
      exact h0 i (by omega)
/-- More rounds change nothing. -/
theorem root_more : ∀ n m l, (Rise (l.map (·.1))) → (∀ p ∈ l, p.1.length ≤ 16) → l.length ≤ n → l.length ≤ m → rootF n l = rootF m l
  | 0, 0, _, _, _, _, _ => rfl
  | 0, m + 1, l, _, _, h, _ => by
    unfold rootF
    rw [if_pos (by omega)]
  | n + 1, 0, l, _, _, _, h => by
    unfold rootF
    rw [if_pos (by omega)]
  | n + 1, m + 1, l, hr, hk, h1, h2 => by
    unfold rootF
    by_cases h0 : l.length = 0
    · rw [if_pos h0, if_pos h0]
    · by_cases h3 : l.length = 1
      · rw [if_neg h0, if_neg h0, if_pos h3, if_pos h3]
      · obtain ⟨d, hp⟩ := parts_of hr hk (by omega)
        obtain ⟨g1, g2, _⟩ := left_lt hp (by omega)
        rw [if_neg h0, if_neg h0, if_neg h3, if_neg h3]
        have ht : Rise ((l.take (leftN l)).map (·.1)) := by
          intro i j hi hj
          simp only [List.length_map, List.length_take] at hj
          have := hr i j hi (by simp; omega)
          simpa using this
        have hd : Rise ((l.drop (leftN l)).map (·.1)) := by
          intro i j hi hj
          simp only [List.length_map, List.length_drop] at hj
          have := hr (leftN l + i) (leftN l + j) (by omega) (by simp; omega)
          simpa using this
        rw [root_more n m _ ht (fun p hp => hk p (List.mem_of_mem_take hp)) (by rw [List.length_take]; omega) (by rw [List.length_take]; omega),
          root_more n m _ hd (fun p hp => hk p (List.mem_of_mem_drop hp)) (by rw [List.length_drop]; omega) (by rw [List.length_drop]; omega)]
def rootS (l : List Pr) : List UInt8 := rootF l.length l
end Go.Proofs.YteacjkihjeiafaaDoor
namespace Go.Proofs.YteacjkihjeiafaaDoor
open Go.RowKit
set_option linter.unusedVariables false
set_option linter.unusedSimpArgs false

theorem partsT_join : ∀ (l : List (List UInt8)) (b : List UInt8), b.length + (l.flatMap len2).length ≤ 4000 → partsT b l = some (b ++ l.flatMap len2)
  | [], b, _ => by simp [partsT]
  | p :: r, b, h => by
    rw [List.flatMap_cons, List.length_append] at h
    have hp : (len2 p).length = p.length + 2 := by simp [len2]
    have hq : (b ++ hdr2 p ++ p).length = b.length + (len2 p).length := by simp [hdr2, len2] <;> omega
    rw [partsT_ok ⟨by omega, by omega⟩, partsT_join r _ (by rw [hq]; omega), List.flatMap_cons, List.append_assoc, List.append_assoc]
    rfl
theorem parts_join {k : UInt8} {l : List (List UInt8)} (h : 1 + (l.flatMap len2).length ≤ 4000) : partsS k l = (digS (joinS k l), 0) := parts_some (partsT_join l [k] (by simpa using h))
theorem parts_leaf {p : Pr} (h : p.1.length + p.2.length ≤ 3000) : partsS 1 [p.1, p.2] = (leafS p, 0) := parts_join (by simp [len2]; omega)
theorem parts_fork {bit : Int} {a b : List UInt8} (h : a.length + b.length ≤ 3000) : partsS 2 [[UInt8.ofNat bit.toNat], a, b] = (forkS bit a b, 0) := parts_join (by simp [len2]; omega)
theorem parts_zero : partsS 0 [] = (noneS, 0) := rfl

/-- Pairs that rise, of which each may be. -/
structure Tree (l : List Pr) : Prop where
  rise : Rise (l.map (·.1))
  key : ∀ p ∈ l, keyFault p.1 = 0
  val : ∀ p ∈ l, p.2.length ≤ 32
theorem tree_of {l : List Pr} (h : pairsFaultS l = 0) : Tree l := by
  obtain ⟨_, h2, h3⟩ := pairs_fine h
  refine ⟨h3, fun p hp => ?_, fun p hp => ?_⟩
  · have := h2 p hp
    unfold pairFaultS at this
    split at this
    · cases this
    · exact this
  · have := h2 p hp
    unfold pairFaultS at this
    split at this
    · cases this
    · omega
section
variable {l : List Pr}
theorem Tree.k16 (h : Tree l) {p : Pr} (hp : p ∈ l) : p.1.length ≤ 16 := key16 (h.key p hp)
theorem Tree.parts (h : Tree l) (h2 : 2 ≤ l.length) : ∃ d, Parts l d := parts_of h.rise (fun _ hp => h.k16 hp) h2
theorem Tree.take (h : Tree l) (n : Nat) : Tree (l.take n) := by
  refine ⟨fun i j hi hj => ?_, fun p hp => h.key p (List.mem_of_mem_take hp), fun p hp => h.val p (List.mem_of_mem_take hp)⟩
  simp only [List.length_map, List.length_take] at hj
  have := h.rise i j hi (by simp; omega)
  simpa using this
theorem Tree.drop (h : Tree l) (n : Nat) : Tree (l.drop n) := by
  refine ⟨fun i j hi hj => ?_, fun p hp => h.key p (List.mem_of_mem_drop hp), fun p hp => h.val p (List.mem_of_mem_drop hp)⟩
  simp only [List.length_map, List.length_drop] at hj
  have := h.rise (n + i) (n + j) (by omega) (by simp; omega)
  simpa using this
theorem rootF_next (n : Nat) (l : List Pr) : rootF (n + 1) l = if l.length = 0 then noneS else if l.length = 1 then leafS (l.getD 0 ([], [])) else forkS (partBit l) (rootF n (l.take (leftN l))) (rootF n (l.drop (leftN l))) := rfl
theorem root_zero (h : l.length = 0) : rootS l = noneS := by
  obtain rfl := List.eq_nil_of_length_eq_zero h
  rfl
theorem root_one (h : l.length = 1) : rootS l = leafS (l.getD 0 ([], [])) := by
  unfold rootS
  rw [h]
  unfold rootF
  rw [if_neg (by omega), if_pos h]
theorem root_two (h : Tree l) (h2 : 2 ≤ l.length) : rootS l = forkS (partBit l) (rootS (l.take (leftN l))) (rootS (l.drop (leftN l))) := by
  obtain ⟨d, hp⟩ := h.parts h2
  obtain ⟨g1, g2, _⟩ := left_lt hp h2
  obtain ⟨n, hn⟩ : ∃ n, l.length = n + 1 := ⟨l.length - 1, by omega⟩
  have ht := h.take (leftN l)
  have hd := h.drop (leftN l)
  show rootF l.length l = forkS (partBit l) (rootF (l.take (leftN l)).length (l.take (leftN l))) (rootF (l.drop (leftN l)).length (l.drop (leftN l)))
  rw [hn, rootF_next, if_neg (by omega), if_neg (by omega), root_more n (l.take (leftN l)).length _ ht.rise (fun _ hp => ht.k16 hp) (by rw [List.length_take]; omega) (Nat.le_refl _),
    root_more n (l.drop (leftN l)).length _ hd.rise (fun _ hp => hd.k16 hp) (by rw [List.length_drop]; omega) (Nat.le_refl _)]
theorem rootS_len (l : List Pr) : (rootS l).length = 32 := root_len _ _
end
/-- The least bit at which one of the first k pairs differs from the first one. -/
def bitMin (l : List Pr) : Nat → Int
  | 0 => 999
  | k + 1 => if k = 0 then 999 else if firstNot (l.getD 0 ([], [])).1 (l.getD k ([], [])).1 145 0 < bitMin l k then firstNot (l.getD 0 ([], [])).1 (l.getD k ([], [])).1 145 0 else bitMin l k
theorem getD_at {l : List Pr} {k : Nat} (h : k < l.length) : l.getD k ([], []) = l[k] := by simp [List.getD_eq_getElem?_getD, List.getElem?_eq_getElem h]
theorem bitMin_less {l : List Pr} {k : Nat} (h0 : 0 < k) (hk : k < l.length) (h : firstNot (l[0]'(by omega)).1 l[k].1 145 0 < bitMin l k) : bitMin l (k + 1) = firstNot (l[0]'(by omega)).1 l[k].1 145 0 := by
  rw [bitMin, if_neg (by omega), getD_at hk, getD_at (show 0 < l.length by omega), if_pos h]
theorem bitMin_stay {l : List Pr} {k : Nat} (h0 : 0 < k) (hk : k < l.length) (h : ¬ firstNot (l[0]'(by omega)).1 l[k].1 145 0 < bitMin l k) : bitMin l (k + 1) = bitMin l k := by
  rw [bitMin, if_neg (by omega), getD_at hk, getD_at (show 0 < l.length by omega), if_neg h]
theorem bitMin_ge {l : List Pr} {d : Nat} (h : Parts l d) : ∀ k, k ≤ l.length → (d : Int) ≤ bitMin l k
  | 0, _ => by have := h.d144; simp only [bitMin]; omega
  | k + 1, hk => by
    have ih := bitMin_ge h k (by omega)
    have h1 := h.d144
    unfold bitMin
    split
    · omega
    · obtain ⟨e, h2, h3, h4⟩ := h.least k (by omega) (by omega)
      rw [getD_at (show k < l.length by omega), getD_at (show 0 < l.length by omega), h4]
      split <;> omega
theorem bitMin_all {l : List Pr} {d : Nat} (h : Parts l d) (h2 : 2 ≤ l.length) : bitMin l l.length = d := by
  have h1 := bitMin_ge h l.length (Nat.le_refl _)
  obtain ⟨n, hn⟩ : ∃ n, l.length = n + 1 := ⟨l.length - 1, by omega⟩
  have h3 := h.last
  rw [hn] at h1 ⊢
  rw [hn, Nat.add_sub_cancel] at h3
  unfold bitMin at h1 ⊢
  rw [if_neg (by omega), h3] at h1 ⊢
  split at h1
  · rename_i h4; rw [if_pos h4]
  · rename_i h4; rw [if_neg h4]; omega
theorem sides_left {l : List Pr} {d : Nat} (h : Parts l d) (h2 : 2 ≤ l.length) : (l.filter fun p => !bitB p.1 d) = l.take (leftN l) := by
  obtain ⟨_, _, h3⟩ := left_lt h h2
  rw [filter_mid (fun p => !bitB p.1 d) l 0 (leftN l) (fun j hj => by simp only [h3 j hj]; by_cases hq : leftN l ≤ j <;> simp [hq] <;> omega)]
  simp
theorem sides_right {l : List Pr} {d : Nat} (h : Parts l d) (h2 : 2 ≤ l.length) : (l.filter fun p => bitB p.1 d) = l.drop (leftN l) := by
  obtain ⟨_, _, h3⟩ := left_lt h h2
  rw [filter_mid (fun p => bitB p.1 d) l (leftN l) l.length (fun j hj => by simp only [h3 j hj]; by_cases hq : leftN l ≤ j <;> simp [hq] <;> omega)]
  rw [List.take_of_length_le (by rw [List.length_drop]; exact Nat.le_refl _)]
end Go.Proofs.YteacjkihjeiafaaDoor
namespace Go.Proofs.YteacjkihjeiafaaDoor
open Go.RowKit
set_option linter.unusedVariables false
set_option linter.unusedSimpArgs false

/-- A block that holds cells, as a slice. -/
theorem sl_block {α : Type} {size : Nat} {R : (Nat → Prop) → World → List Value → α → Prop} {S : Nat → Prop} {w : World} {g : Nat} {t : TypeId} {cs : List Value} {l : List α} (h : w.heap[g]? = some (.cells cs.toArray t (0, 0))) (hS : S g)
    (hR : ∀ i (hi : i < l.length), ∃ c : List Value, c.length = size ∧ (∀ j, j < size → cs[i * size + j]? = c[j]?) ∧ R S w c l[i]) : SL size R S w (some ⟨g, 0, none⟩) l := by
  intro _
  refine ⟨g, 0, rfl, hS, (Array.getElem?_eq_some_iff.1 h).1, fun i hi => ?_⟩
  obtain ⟨c, h1, h2, h3⟩ := hR i hi
  exact ⟨c, h1, fun j hj => by rw [Nat.zero_add, box_cell h, h2 j hj], h3⟩
theorem box_at {w : World} {n : Nat} (cs : Array Value) (t : TypeId) (h : w.heap.size = n) : (w.alloc (.cells cs t)).heap[n]? = some (.cells cs t (0, 0)) := h ▸ heap_alloc_new w _
theorem bls_two {w : World} {g : Nat} {t : TypeId} {A B : Option Addr} {a b : Nat} {x y : List UInt8} (h : w.heap[g]? = some (.cells #[.slice A x.length a, .slice B y.length b] t (0, 0))) (h1 : Bs All w A x) (h2 : Bs All w B y) (g1 : x.length ≤ big) (g2 : y.length ≤ big) : Bls All w (some ⟨g, 0, none⟩) [x, y] := by
  refine sl_block (cs := [.slice A x.length a, .slice B y.length b]) h trivial fun i hi => ?_
  match i, hi with
  | 0, _ => exact ⟨[.slice A x.length a], rfl, fun j hj => by obtain rfl : j = 0 := by omega
                                                              rfl, A, a, rfl, h1, g1⟩
  | 1, _ => exact ⟨[.slice B y.length b], rfl, fun j hj => by obtain rfl : j = 0 := by omega
                                                              rfl, B, b, rfl, h2, g2⟩
theorem bls_three {w : World} {g : Nat} {t : TypeId} {A B C : Option Addr} {a b c : Nat} {x y z : List UInt8} (h : w.heap[g]? = some (.cells #[.slice A x.length a, .slice B y.length b, .slice C z.length c] t (0, 0))) (h1 : Bs All w A x) (h2 : Bs All w B y) (h3 : Bs All w C z) (g1 : x.length ≤ big) (g2 : y.length ≤ big) (g3 : z.length ≤ big) : Bls All w (some ⟨g, 0, none⟩) [x, y, z] := by
  refine sl_block (cs := [.slice A x.length a, .slice B y.length b, .slice C z.length c]) h trivial fun i hi => ?_
  match i, hi with
  | 0, _ => exact ⟨[.slice A x.length a], rfl, fun j hj => by obtain rfl : j = 0 := by omega
                                                              rfl, A, a, rfl, h1, g1⟩
  | 1, _ => exact ⟨[.slice B y.length b], rfl, fun j hj => by obtain rfl : j = 0 := by omega
                                                              rfl, B, b, rfl, h2, g2⟩
  | 2, _ => exact ⟨[.slice C z.length c], rfl, fun j hj => by obtain rfl : j = 0 := by omega
                                                              rfl, C, c, rfl, h3, g3⟩
/-- One byte in a block of its own. -/
theorem bs_one {w : World} {g : Nat} {t : TypeId} {b : UInt8} (h : w.heap[g]? = some (.cells #[bv b] t (0, 0))) : Bs All w (some ⟨g, 0, none⟩) [b] := by
  refine sl_block (cs := [bv b]) h trivial fun i hi => ?_
  obtain rfl : i = 0 := by simpa using hi
  exact ⟨[bv b], rfl, fun j hj => by obtain rfl : j = 0 := by omega
                                     rfl, rfl⟩
theorem bv_bit {d : Nat} (h : d < 256) : (.int .u8 (d : Int) : Value) = bv (UInt8.ofNat (d : Int).toNat) := by
  have : (UInt8.ofNat (d : Int).toNat).toNat = d := by simp; omega
  rw [bv, this]
theorem partsLeaf_ok (w : World) (hT : TabsAt w) (A : Option Addr) (p : Pr) (c : Nat) (ha : Bls All w A [p.1, p.2]) (h : p.1.length + p.2.length ≤ 3000) : Calls Tryd.prog 70 #[.int .u8 1, .slice A 2 c] w (RetBsE w (leafS p, 0)) := by
  have := parts_ok w hT 1 A [p.1, p.2] c ha (by simp)
  rw [parts_leaf h] at this
  exact this
theorem partsFork_ok (w : World) (hT : TabsAt w) (A : Option Addr) (d : Nat) (a b : List UInt8) (c : Nat) (ha : Bls All w A [[UInt8.ofNat (d : Int).toNat], a, b]) (h : a.length + b.length ≤ 3000) : Calls Tryd.prog 70 #[.int .u8 2, .slice A 3 c] w (RetBsE w (forkS d a b, 0)) := by
  have := parts_ok w hT 2 A [[UInt8.ofNat (d : Int).toNat], a, b] c ha (by simp)
  rw [parts_fork h] at this
  exact this
theorem partsNone_ok (w : World) (hT : TabsAt w) (c : Nat) : Calls Tryd.prog 70 #[.int .u8 0, .slice none 0 c] w (RetBsE w (noneS, 0)) := parts_ok w hT 0 none [] c SL.nil (by simp)
theorem refLeaf_ok (w : World) (A : Option Addr) (p : Pr) (c : Nat) (ha : Bls All w A [p.1, p.2]) (h : p.1.length + p.2.length ≤ 3000) : Calls Tryd.prog 135 #[.int .u8 1, .slice A 2 c] w (RetBsE w (leafS p, 0)) := by
  have := partsOf_ok' w 1 A [p.1, p.2] c ha (by simp)
  rw [parts_leaf h] at this
  exact this
theorem refFork_ok (w : World) (A : Option Addr) (d : Nat) (a b : List UInt8) (c : Nat) (ha : Bls All w A [[UInt8.ofNat (d : Int).toNat], a, b]) (h : a.length + b.length ≤ 3000) : Calls Tryd.prog 135 #[.int .u8 2, .slice A 3 c] w (RetBsE w (forkS d a b, 0)) := by
  have := partsOf_ok' w 2 A [[UInt8.ofNat (d : Int).toNat], a, b] c ha (by simp)
  rw [parts_fork h] at this
  exact this
set_option maxRecDepth 100000 in
set_option maxHeartbeats 1000000 in
theorem treeLeaf_ok (w : World) (hT : TabsAt w) (A B : Option Addr) (p : Pr) (c d : Nat) (ha : Bs All w A p.1) (hb : Bs All w B p.2) (h : p.1.length + p.2.length ≤ 3000) :
    Calls Tryd.prog 112 #[.agg #[.slice A p.1.length c, .slice B p.2.length d]] w (RetBs w (leafS p)) := by
  have HT := Lib.hid hT
  have Ha := Lib.hid ha
  have Hb := Lib.hid hb
  have Hl := Lib.hid h
  clear hT ha hb h
  go_enter Tryd.func112, Tryd.ntmps112
  go_wp2_with (first
    | (go_at_call 70; (with_reducible refine (partsLeaf_ok _ ?hT _ p _ ?ha Hl.out).mono ?_); (case hT => (refine HT.out.below ?_; repeat' (first | exact Below.refl _ _ | assumption | refine Below.drew ?_ | refine below_drewN ?_ _ | refine Below.setCell ?_ (by first | (simp; done) | omega | (simp; omega)) _ | refine Below.alloc ?_ (by first | exact Nat.le_refl _ | omega | (simp; done) | (simp; omega)) _))); (case ha => (refine bls_two (box_at _ _ (by simp)) (Ha.out.bbelow ?_) (Hb.out.bbelow ?_) (by have := Hl.out; unfold big; omega) (by have := Hl.out; unfold big; omega); repeat' (first | exact Below.refl _ _ | assumption | refine Below.drew ?_ | refine below_drewN ?_ _ | refine Below.setCell ?_ (by first | (simp; done) | omega | (simp; omega)) _ | refine Below.alloc ?_ (by first | exact Nat.le_refl _ | omega | (simp; done) | (simp; omega)) _))); rintro e1 w1 ⟨B1, d1, rfl, hs1, hb1⟩))
  go_ret
  refine ⟨B1, d1, rfl, hs1.blo (by simp; omega), ?_⟩
  refine Below.next (W := _) ?_ hb1 (by simp; omega)
  repeat' (first | exact Below.refl _ _ | assumption | refine Below.drew ?_ | refine below_drewN ?_ _ | refine Below.setCell ?_ (by first | (simp; done) | omega | (simp; omega)) _ | refine Below.alloc ?_ (by first | exact Nat.le_refl _ | omega | (simp; done) | (simp; omega)) _)
set_option maxRecDepth 100000 in
set_option maxHeartbeats 1000000 in
theorem treeFork_ok (w : World) (hT : TabsAt w) (A B : Option Addr) (d : Nat) (x y : List UInt8) (a b : Nat) (ha : Bs All w A x) (hb : Bs All w B y) (h : x.length + y.length ≤ 3000) (hd : d < 256) :
    Calls Tryd.prog 114 #[.int .i64 (d : Int), .slice A x.length a, .slice B y.length b] w (RetBs w (forkS d x y)) := by
  have HT := Lib.hid hT
  have Ha := Lib.hid ha
  have Hb := Lib.hid hb
  have Hl := Lib.hid h
  have mk : IntKind.u8.wrap (d : Int) = (d : Int) := IntWalk.u8_in _ (by omega)
  have Hv := Lib.hid (bv_bit hd)
  clear hT ha hb h hd
  go_enter Tryd.func114, Tryd.ntmps114
  go_wp2_with (first
    | (go_at_call 70; (with_reducible refine (partsFork_ok _ ?hT _ d x y _ ?ha Hl.out).mono ?_); (case hT => (refine HT.out.below ?_; repeat' (first | exact Below.refl _ _ | assumption | refine Below.drew ?_ | refine below_drewN ?_ _ | refine Below.setCell ?_ (by first | (simp; done) | omega | (simp; omega)) _ | refine Below.alloc ?_ (by first | exact Nat.le_refl _ | omega | (simp; done) | (simp; omega)) _))); (case ha => (refine bls_three (x := [UInt8.ofNat (d : Int).toNat]) (a := 1) (box_at _ _ (by simp)) (bs_one ((heap_alloc_old _ _ (by simp)).trans (by rw [← Hv.out]; exact box_at _ _ rfl))) (Ha.out.bbelow ?_) (Hb.out.bbelow ?_) (by simp [big]) (by have := Hl.out; unfold big; omega) (by have := Hl.out; unfold big; omega); repeat' (first | exact Below.refl _ _ | assumption | refine Below.drew ?_ | refine below_drewN ?_ _ | refine Below.setCell ?_ (by first | (simp; done) | omega | (simp; omega)) _ | refine Below.alloc ?_ (by first | exact Nat.le_refl _ | omega | (simp; done) | (simp; omega)) _))); rintro e1 w1 ⟨B1, d1, rfl, hs1, hb1⟩))
  go_ret
  refine ⟨B1, d1, rfl, hs1.blo (by simp; omega), ?_⟩
  refine Below.next (W := _) ?_ hb1 (by simp; omega)
  repeat' (first | exact Below.refl _ _ | assumption | refine Below.drew ?_ | refine below_drewN ?_ _ | refine Below.setCell ?_ (by first | (simp; done) | omega | (simp; omega)) _ | refine Below.alloc ?_ (by first | exact Nat.le_refl _ | omega | (simp; done) | (simp; omega)) _)
set_option maxRecDepth 100000 in
set_option maxHeartbeats 1000000 in
theorem leafDigest_ok (w : World) (A B : Option Addr) (p : Pr) (c d : Nat) (ha : Bs All w A p.1) (hb : Bs All w B p.2) (h : p.1.length + p.2.length ≤ 3000) :
    Calls Tryd.prog 105 #[.agg #[.slice A p.1.length c, .slice B p.2.length d]] w (RetBs w (leafS p)) := by
  have Ha := Lib.hid ha
  have Hb := Lib.hid hb
  have Hl := Lib.hid h
  clear ha hb h
  go_enter Tryd.func105, Tryd.ntmps105
  go_wp2_with (first
    | (go_at_call 135; (with_reducible refine (refLeaf_ok _ _ p _ ?ha Hl.out).mono ?_); (case ha => (refine bls_two (box_at _ _ (by simp)) (Ha.out.bbelow ?_) (Hb.out.bbelow ?_) (by have := Hl.out; unfold big; omega) (by have := Hl.out; unfold big; omega); repeat' (first | exact Below.refl _ _ | assumption | refine Below.drew ?_ | refine below_drewN ?_ _ | refine Below.setCell ?_ (by first | (simp; done) | omega | (simp; omega)) _ | refine Below.alloc ?_ (by first | exact Nat.le_refl _ | omega | (simp; done) | (simp; omega)) _))); rintro e1 w1 ⟨B1, d1, rfl, hs1, hb1⟩))
  go_ret
  refine ⟨B1, d1, rfl, hs1.blo (by simp; omega), ?_⟩
  refine Below.next (W := _) ?_ hb1 (by simp; omega)
  repeat' (first | exact Below.refl _ _ | assumption | refine Below.drew ?_ | refine below_drewN ?_ _ | refine Below.setCell ?_ (by first | (simp; done) | omega | (simp; omega)) _ | refine Below.alloc ?_ (by first | exact Nat.le_refl _ | omega | (simp; done) | (simp; omega)) _)
set_option maxRecDepth 100000 in
set_option maxHeartbeats 1000000 in
theorem forkDigest_ok (w : World) (A B : Option Addr) (d : Nat) (x y : List UInt8) (a b : Nat) (ha : Bs All w A x) (hb : Bs All w B y) (h : x.length + y.length ≤ 3000) (hd : d < 256) :
    Calls Tryd.prog 106 #[.int .i64 (d : Int), .slice A x.length a, .slice B y.length b] w (RetBs w (forkS d x y)) := by
  have Ha := Lib.hid ha
  have Hb := Lib.hid hb
  have Hl := Lib.hid h
  have mk : IntKind.u8.wrap (d : Int) = (d : Int) := IntWalk.u8_in _ (by omega)
  have Hv := Lib.hid (bv_bit hd)
  clear ha hb h hd
  go_enter Tryd.func106, Tryd.ntmps106
  go_wp2_with (first
    | (go_at_call 135; (with_reducible refine (refFork_ok _ _ d x y _ ?ha Hl.out).mono ?_); (case ha => (refine bls_three (x := [UInt8.ofNat (d : Int).toNat]) (a := 1) (box_at _ _ (by simp)) (bs_one ((heap_alloc_old _ _ (by simp)).trans (by rw [← Hv.out]; exact box_at _ _ rfl))) (Ha.out.bbelow ?_) (Hb.out.bbelow ?_) (by simp [big]) (by have := Hl.out; unfold big; omega) (by have := Hl.out; unfold big; omega); repeat' (first | exact Below.refl _ _ | assumption | refine Below.drew ?_ | refine below_drewN ?_ _ | refine Below.setCell ?_ (by first | (simp; done) | omega | (simp; omega)) _ | refine Below.alloc ?_ (by first | exact Nat.le_refl _ | omega | (simp; done) | (simp; omega)) _))); rintro e1 w1 ⟨B1, d1, rfl, hs1, hb1⟩))
  go_ret
  refine ⟨B1, d1, rfl, hs1.blo (by simp; omega), ?_⟩
  refine Below.next (W := _) ?_ hb1 (by simp; omega)
  repeat' (first | exact Below.refl _ _ | assumption | refine Below.drew ?_ | refine below_drewN ?_ _ | refine Below.setCell ?_ (by first | (simp; done) | omega | (simp; omega)) _ | refine Below.alloc ?_ (by first | exact Nat.le_refl _ | omega | (simp; done) | (simp; omega)) _)
theorem digNone_ok (w : World) (A : Option Addr) (c : Nat) (ha : Bs All w A [0]) : Calls Tryd.prog 56 #[.slice A 1 c] w (RetBs w noneS) := digested_ok w A [0] c ha (by simp)
set_option maxRecDepth 100000 in
set_option maxHeartbeats 1000000 in
theorem noneDigest_ok (w : World) : Calls Tryd.prog 36 #[] w (RetBs w noneS) := by
  go_enter Tryd.func36, Tryd.ntmps36
  go_wp2_with (first
    | (go_at_call 56; (with_reducible refine (digNone_ok _ _ _ ?ha).mono ?_); (case ha => exact bs_one (box_at _ _ rfl)); rintro e1 w1 ⟨B1, d1, rfl, hs1, hb1⟩))
  go_ret
  refine ⟨B1, d1, rfl, hs1.blo (by simp), ?_⟩
  refine Below.next (W := _) ?_ hb1 (by simp)
  repeat' (first | exact Below.refl _ _ | assumption | refine Below.drew ?_ | refine below_drewN ?_ _ | refine Below.setCell ?_ (by first | (simp; done) | omega | (simp; omega)) _ | refine Below.alloc ?_ (by first | exact Nat.le_refl _ | omega | (simp; done) | (simp; omega)) _)
end Go.Proofs.YteacjkihjeiafaaDoor
namespace Go.Proofs.YteacjkihjeiafaaDoor
open Go.RowKit
set_option linter.unusedVariables false
set_option linter.unusedSimpArgs false

theorem part_fst {l : List Pr} {d : Nat} (hp : Parts l d) (ht : Tree l) (h2 : 2 ≤ l.length) : partS (l[0]'(by omega)).1 (l[l.length - 1]'(by omega)).1 = ((d : Int), 0) := by
  have h := hp.last
  rw [getD_at (show 0 < l.length by omega), getD_at (show l.length - 1 < l.length by omega)] at h
  unfold partS
  rw [if_pos (ht.key _ (List.getElem_mem _)), if_pos (ht.key _ (List.getElem_mem _)), h]
theorem bit_key {a : List UInt8} {d : Nat} (hk : keyFault a = 0) (hd : d < 145) : bitS a d = (bitB a d, 0) := by
  unfold bitS
  rw [if_pos hk, if_pos ⟨by omega, by omega⟩]
  rfl
set_option maxRecDepth 100000 in
set_option maxHeartbeats 1000000 in
theorem treeParted_ok (w : World) (A : Option Addr) (l : List Pr) (c d : Nat) (ha : Ps All w A l) (hp : Parts l d) (h2 : 2 ≤ l.length) (h60 : l.length ≤ 60) (ht : Tree l) :
    Calls Tryd.prog 113 #[.slice A l.length c] w (RetV w (.tuple #[.int .i64 (d : Int), .int .i64 ((leftN l : Nat) : Int)])) := by
  obtain ⟨hn1, hn2, hbit⟩ := left_lt hp h2
  have Hbit := Lib.hid hbit
  have Hpt := Lib.hid (part_fst hp ht h2)
  have Ht := Lib.hid ht
  have Ha := Lib.hid ha
  have H144 := Lib.hid hp.d144
  obtain ⟨g, off, K0, c0, V0, d0, rfl, _, hgl, q0, _, hs0, _, _, _⟩ := pairs_at ha (show 0 < l.length by omega)
  obtain ⟨g', off', K1, c1, V1, d1, he, _, _, q1, _, hs1, _, _, _⟩ := pairs_at ha (show l.length - 1 < l.length by omega)
  cases he
  simp only [Nat.zero_mul, Nat.add_zero] at q0
  have Hs0 := Lib.hid hs0
  have Hs1 := Lib.hid hs1
  have mk : IntKind.i64.wrap ((l.length : Int) - 1) = ((l.length - 1 : Nat) : Int) := by rw [IntWalk.i64_in _ (by omega)]; omega
  have hi0 : (0 : Int) < (l.length : Int) := by omega
  have hi1 : ((l.length - 1 : Nat) : Int) < (l.length : Int) := by omega
  have hj0 : 0 < l.length := by omega
  have hj1 : l.length - 1 < l.length := by omega
  clear hbit ha hp ht hs0 hs1
  go_enter Tryd.func113, Tryd.ntmps113
  go_wp2_with fail
  go_region_held3 (fun w' => w'.cell? ⟨g, off, none⟩ = some (.slice K0 l[0].1.length c0) ∧ w'.cell? ⟨g, off + (l.length - 1) * 2, none⟩ = some (.slice K1 l[l.length - 1].1.length c1))
    (first
      | go_keep
      | (go_split_ands; refine ⟨(hb1.cell (by simp; omega)).trans (by assumption), (hb1.cell (by simp; omega)).trans (by assumption)⟩))
    ((go_at_call 118; (with_reducible refine (pathPart_ok _ K0 K1 _ _ c0 c1 ?h1 ?h2).mono ?_); (case h1 => exact Hs0.out.bz.bsame (by repeat' (first | exact Same.refl _ _ | assumption | refine Same.drew ?_ | refine Same.drewN ?_ _ | refine Same.alloc ?_ _ | refine Same.setCell ?_ (fun hq => by simp only [From] at hq; first | omega | (simp at hq; done) | (simp at hq; omega)) _))); (case h2 => exact Hs1.out.bz.bsame (by repeat' (first | exact Same.refl _ _ | assumption | refine Same.drew ?_ | refine Same.drewN ?_ _ | refine Same.alloc ?_ _ | refine Same.setCell ?_ (fun hq => by simp only [From] at hq; first | omega | (simp at hq; done) | (simp at hq; omega)) _))); rintro e w1 ⟨rfl, hb1⟩; rw [Hpt.out]))
  go_wp2
  have Hb1 := Lib.hid (show Below w.heap.size w w1 from by (refine Below.next (W := _) ?_ hb1 (by first | exact Nat.le_refl _ | simp); repeat' (first | exact Below.refl _ _ | assumption | refine Below.drew ?_ | refine below_drewN ?_ _ | refine Below.setCell ?_ (by first | (simp; done) | omega | (simp; omega)) _ | refine Below.alloc ?_ (by first | exact Nat.le_refl _ | omega | (simp; done) | (simp; omega)) _)))
  clear mk hi0 hi1
  go_loopw [6] (fun n wr => ∃ k : Nat, k ≤ leftN l ∧ n = .int .i64 k ∧ Below w.heap.size w wr) (fun n _ => l.length - (intOf n).toNat)
  case atStart => exact ⟨0, by omega, rfl, Hb1.out⟩
  case round =>
    obtain ⟨k, hk, rfl, hbel⟩ := hrel
    have Hbel := Lib.hid hbel
    clear hbel
    have hlt : k < l.length := by omega
    have hki : (k : Int) < (l.length : Int) := by omega
    have mk : IntKind.i64.wrap ((k : Int) + 1) = (k : Int) + 1 := IntWalk.i64_in _ (by omega)
    obtain ⟨g', off', K, c', V, d', he, _, hgl', q0, _, hs, _, _, _⟩ := pairs_at (Ha.out.below pairR_stays Hbel.out) hlt
    cases he
    have Hs := Lib.hid hs
    have Hbk := Lib.hid (bit_key (Ht.out.key _ (List.getElem_mem hlt)) (show d < 145 by have := H144.out; omega))
    have Hbt := Lib.hid (Hbit.out k hlt)
    generalize l[k] = x at *
    clear hs
    have Hlt := Lib.hid hlt
    by_cases hl : k < leftN l
    · have Hf := Lib.hid (show bitB x.1 d = false by rw [Hbt.out]; simp; omega)
      have Hl := Lib.hid hl
      clear hl
      go_wp2_with (go_at_call 80; (with_reducible refine (pathBit_ok _ K x.1 c' d ?ha).mono ?_); (case ha => exact Hs.out.bz); rintro e w2 ⟨rfl, hb2⟩; rw [Hbk.out, Hf.out])
      go_roundw
      case rel => exact ⟨k + 1, Hl.out, by go_num, Hbel.out.next hb2 Hbel.out.size⟩
      case measure => have hq := Hlt.out; simp [intOf]; omega
    · obtain rfl : k = leftN l := by omega
      have Hf := Lib.hid (show bitB x.1 d = true by rw [Hbt.out]; simp)
      clear hl
      go_wp2_with (go_at_call 80; (with_reducible refine (pathBit_ok _ K x.1 c' d ?ha).mono ?_); (case ha => exact Hs.out.bz); rintro e w2 ⟨rfl, hb2⟩; rw [Hbk.out, Hf.out])
      go_ret2
      exact ⟨rfl, Hbel.out.next hb2 Hbel.out.size⟩
set_option maxRecDepth 100000 in
set_option maxHeartbeats 1000000 in
theorem treeRoot_n : ∀ (n : Nat) (l : List Pr) (_ : l.length ≤ n) (w : World) (_ : TabsAt w) (A : Option Addr) (m c : Nat) (_ : m = l.length) (_ : Ps All w A l) (_ : 1 ≤ l.length) (_ : l.length ≤ 60) (_ : l.length ≤ c) (_ : Tree l),
    Calls Tryd.prog 71 #[.slice A m c] w (RetBs w (rootS l)) := by
  intro n
  induction n with
  | zero => intro l hl w hT A m c hm ha h1; omega
  | succ n ih =>
    intro l hl w hT A m c hm ha h1 h60 hc ht
    subst hm
    have HT := Lib.hid hT
    have Ha := Lib.hid ha
    clear hT
    by_cases h2 : l.length = 1
    · rw [root_one h2, getD_at (show 0 < l.length by omega)]
      have Hp := Lib.hid (show l[0].1.length + l[0].2.length ≤ 3000 by have := ht.k16 (List.getElem_mem (show 0 < l.length by omega)); have := ht.val _ (List.getElem_mem (show 0 < l.length by omega)); omega)
      obtain ⟨g, off, K0, c0, V0, d0, rfl, _, hgl, q0, q1, hs0, hs1, _, _⟩ := pairs_at ha (show 0 < l.length by omega)
      simp only [Nat.zero_mul, Nat.add_zero] at q0 q1
      have Hs0 := Lib.hid hs0
      have Hs1 := Lib.hid hs1
      generalize l[0] = x at *
      rw [h2]
      clear hl ha h1 h60 hc ht hs0 hs1 h2 ih
      go_enter Tryd.func71, Tryd.ntmps71
      go_wp2_with (go_at_call 112; (with_reducible refine (treeLeaf_ok _ HT.out K0 V0 x c0 d0 Hs0.out.bz Hs1.out.bz Hp.out).mono ?_); rintro e1 w1 ⟨B1, e1, rfl, hr1, hb1⟩)
      go_ret
      exact ⟨B1, _, rfl, hr1, hb1⟩
    · have h22 : 2 ≤ l.length := by omega
      obtain ⟨d, hp⟩ := ht.parts h22
      obtain ⟨hn1, hn2, _⟩ := left_lt hp h22
      have Hv := Lib.hid (root_two ht h22)
      rw [hp.bit] at Hv
      have Hpar := Lib.hid (treeParted_ok w A l c d ha hp h22 h60 ht)
      have Hx := Lib.hid (ih (l.take (leftN l)) (by rw [List.length_take]; omega))
      have Hy := Lib.hid (ih (l.drop (leftN l)) (by rw [List.length_drop]; omega))
      have Htx := Lib.hid (ht.take (leftN l))
      have Hty := Lib.hid (ht.drop (leftN l))
      have Hd := Lib.hid hp.d144
      obtain ⟨g, off, _, _, _, _, rfl, _, hgl, _⟩ := pairs_at ha (show 0 < l.length by omega)
      have Hax := Lib.hid (show ∀ W, Below w.heap.size w W → Ps All W (some ⟨g, off, none⟩) (l.take (leftN l)) from fun W hW => by have := SL.cut (Ha.out.below pairR_stays hW) 0 (leftN l); simpa using this)
      have Hay := Lib.hid (show ∀ W, Below w.heap.size w W → Ps All W (some ⟨g, off + leftN l * 2, none⟩) (l.drop (leftN l)) from fun W hW => by have := SL.cut (Ha.out.below pairR_stays hW) (leftN l) l.length; rw [List.take_of_length_le (by rw [List.length_drop]; omega)] at this; exact this)
      generalize hk : leftN l = k at *
      have Hlx := Lib.hid (show (l.take k).length = k by rw [List.length_take]; omega)
      have Hly := Lib.hid (show (l.drop k).length = l.length - k by rw [List.length_drop])
      generalize l.take k = x at *
      generalize l.drop k = y at *
      have hki : (k : Int) ≤ (l.length : Int) := by omega
      have hkc : (k : Int) ≤ (c : Int) := by omega
      have hlc : (l.length : Int) ≤ (c : Int) := by omega
      have hkn : k ≤ l.length := by omega
      have hkm : k ≤ c := by omega
      clear hl ha ht hp ih h2 hk
      go_enter Tryd.func71, Tryd.ntmps71
      go_wp2_with (go_at_call 113; (with_reducible refine Hpar.out.mono ?_); rintro e1 w1 ⟨rfl, hb1⟩)
      go_region_held3 (fun _ => True)
        (trivial)
        (first
          | (go_at_call 71; (with_reducible refine (Hx.out _ ?hT _ _ _ ?hm ?ha ?h1 ?h60 ?hc ?ht).mono ?_); (case hm => exact Hlx.out.symm); (case hT => (refine HT.out.below ?_; repeat' (first | exact Below.refl _ _ | assumption | refine Below.drew ?_ | refine below_drewN ?_ _ | refine Below.setCell ?_ (by first | (simp; done) | omega | (simp; omega)) _ | refine Below.alloc ?_ (by first | exact Nat.le_refl _ | omega | (simp; done) | (simp; omega)) _))); (case ha => (refine Hax.out _ ?_; repeat' (first | exact Below.refl _ _ | assumption | refine Below.drew ?_ | refine below_drewN ?_ _ | refine Below.setCell ?_ (by first | (simp; done) | omega | (simp; omega)) _ | refine Below.alloc ?_ (by first | exact Nat.le_refl _ | omega | (simp; done) | (simp; omega)) _))); (case h1 => (rw [Hlx.out]; exact hn1)); (case h60 => (rw [Hlx.out]; omega)); (case hc => (rw [Hlx.out]; omega)); (case ht => exact Htx.out); rintro e2 w2 ⟨X, cx, rfl, hsx, hb2⟩; have hq2 : Below w.heap.size w w2 := (Below.next (by repeat' (first | exact Below.refl _ _ | assumption | refine Below.drew ?_ | refine below_drewN ?_ _ | refine Below.setCell ?_ (by first | (simp; done) | omega | (simp; omega)) _ | refine Below.alloc ?_ (by first | exact Nat.le_refl _ | omega | (simp; done) | (simp; omega)) _)) hb2 hb1.size))
          | (go_at_call 71; (with_reducible refine (Hy.out _ ?hT _ _ _ ?hm ?ha ?h1 ?h60 ?hc ?ht).mono ?_); (case hm => exact Hly.out.symm); (case hT => (refine HT.out.below ?_; repeat' (first | exact Below.refl _ _ | assumption | refine Below.drew ?_ | refine below_drewN ?_ _ | refine Below.setCell ?_ (by first | (simp; done) | omega | (simp; omega)) _ | refine Below.alloc ?_ (by first | exact Nat.le_refl _ | omega | (simp; done) | (simp; omega)) _))); (case ha => (refine Hay.out _ ?_; repeat' (first | exact Below.refl _ _ | assumption | refine Below.drew ?_ | refine below_drewN ?_ _ | refine Below.setCell ?_ (by first | (simp; done) | omega | (simp; omega)) _ | refine Below.alloc ?_ (by first | exact Nat.le_refl _ | omega | (simp; done) | (simp; omega)) _))); (case h1 => (rw [Hly.out]; omega)); (case h60 => (rw [Hly.out]; omega)); (case hc => (rw [Hly.out]; omega)); (case ht => exact Hty.out); rintro e3 w3 ⟨Y, cy, rfl, hsy, hb3⟩; have hq3 : Below w.heap.size w w3 := (Below.next (by repeat' (first | exact Below.refl _ _ | assumption | refine Below.drew ?_ | refine below_drewN ?_ _ | refine Below.setCell ?_ (by first | (simp; done) | omega | (simp; omega)) _ | refine Below.alloc ?_ (by first | exact Nat.le_refl _ | omega | (simp; done) | (simp; omega)) _)) hb3 hq2.size))
          | (go_at_call 114; (with_reducible refine (treeFork_ok _ ?hT X Y d _ _ cx cy ?ha ?hb ?hl ?hd).mono ?_); (case hT => (refine HT.out.below ?_; repeat' (first | exact Below.refl _ _ | assumption | refine Below.drew ?_ | refine below_drewN ?_ _ | refine Below.setCell ?_ (by first | (simp; done) | omega | (simp; omega)) _ | refine Below.alloc ?_ (by first | exact Nat.le_refl _ | omega | (simp; done) | (simp; omega)) _))); (case ha => exact (hsx.bsame (Same.trans (by repeat' (first | exact Same.refl _ _ | assumption | refine Same.drew ?_ | refine Same.drewN ?_ _ | refine Same.alloc ?_ _ | refine Same.setCell ?_ (fun hq => by simp only [From] at hq; first | omega | (simp at hq; done) | (simp at hq; omega)) _)) (Same.of_below hb3))).bz); (case hb => exact (hsy.bsame (by repeat' (first | exact Same.refl _ _ | assumption | refine Same.drew ?_ | refine Same.drewN ?_ _ | refine Same.alloc ?_ _ | refine Same.setCell ?_ (fun hq => by simp only [From] at hq; first | omega | (simp at hq; done) | (simp at hq; omega)) _))).bz); (case hl => (rw [rootS_len, rootS_len]; omega)); (case hd => (have := Hd.out; omega)); rintro e4 w4 ⟨Z, cz, rfl, hsz, hb4⟩; have hq4 : Below w.heap.size w w4 := (Below.next (by repeat' (first | exact Below.refl _ _ | assumption | refine Below.drew ?_ | refine below_drewN ?_ _ | refine Below.setCell ?_ (by first | (simp; done) | omega | (simp; omega)) _ | refine Below.alloc ?_ (by first | exact Nat.le_refl _ | omega | (simp; done) | (simp; omega)) _)) hb4 hq3.size)))
      go_wp2
      go_ret
      rw [Hv.out]
      exact ⟨Z, cz, rfl, hsz.blo hq3.size, hq4⟩
theorem treeRoot_ok (w : World) (hT : TabsAt w) (A : Option Addr) (l : List Pr) (c : Nat) (ha : Ps All w A l) (h1 : 1 ≤ l.length) (h60 : l.length ≤ 60) (hc : l.length ≤ c) (ht : Tree l) : Calls Tryd.prog 71 #[.slice A l.length c] w (RetBs w (rootS l)) :=
  treeRoot_n l.length l (Nat.le_refl _) w hT A l.length c rfl ha h1 h60 hc ht
/-- What tree.Root and RootOf answer. -/
def rootE (l : List Pr) : List UInt8 × Int := if pairsFaultS l = 0 then (rootS l, 0) else ([], pairsFaultS l)
set_option maxRecDepth 100000 in
set_option maxHeartbeats 1000000 in
theorem treeRootE_ok (w : World) (hT : TabsAt w) (A : Option Addr) (l : List Pr) (c : Nat) (ha : Ps All w A l) (hc : l.length ≤ c) : Calls Tryd.prog 32 #[.slice A l.length c] w (RetBsE w (rootE l)) := by
  have HT := Lib.hid hT
  have Ha := Lib.hid ha
  clear hT ha
  by_cases hf : pairsFaultS l = 0
  · have Ht := Lib.hid (tree_of hf)
    have H60 := Lib.hid (pairs_fine hf).1
    have Hv := Lib.hid (show rootE l = (rootS l, 0) by rw [rootE, if_pos hf])
    have Hf := Lib.hid hf
    clear hf
    by_cases h0 : l.length = 0
    · have Hz := Lib.hid (root_zero h0)
      have hz : ((l.length : Int) == 0) = true := by simp [h0]
      have hz' : decide ((l.length : Int) = 0) = true := by simp [h0]
      clear h0
      go_enter Tryd.func32, Tryd.ntmps32
      go_wp2_with (first
        | (go_at_call 69; (with_reducible refine (treeCheck_ok _ A l c Ha.out).mono ?_); rintro e1 w1 ⟨rfl, hb1⟩; rw [Hf.out])
        | (go_at_call 70; (with_reducible refine (partsNone_ok _ ?hT _).mono ?_); (case hT => (refine HT.out.below ?_; repeat' (first | exact Below.refl _ _ | assumption | refine Below.drew ?_ | refine below_drewN ?_ _ | refine Below.setCell ?_ (by first | (simp; done) | omega | (simp; omega)) _ | refine Below.alloc ?_ (by first | exact Nat.le_refl _ | omega | (simp; done) | (simp; omega)) _))); rintro e2 w2 ⟨B, d, rfl, hs, hb2⟩; have hq2 : Below w.heap.size w w2 := (Below.next (by repeat' (first | exact Below.refl _ _ | assumption | refine Below.drew ?_ | refine below_drewN ?_ _ | refine Below.setCell ?_ (by first | (simp; done) | omega | (simp; omega)) _ | refine Below.alloc ?_ (by first | exact Nat.le_refl _ | omega | (simp; done) | (simp; omega)) _)) hb2 hb1.size)))
      go_ret2
      rw [Hv.out, Hz.out]
      exact ⟨B, d, rfl, hs.blo hb1.size, hq2⟩
    · have H1 := Lib.hid (show 1 ≤ l.length by omega)
      have hz : ((l.length : Int) == 0) = false := by rw [beq_eq_false_iff_ne]; omega
      have hz' : decide ((l.length : Int) = 0) = false := decide_eq_false (by omega)
      clear h0
      go_enter Tryd.func32, Tryd.ntmps32
      go_wp2_with (first
        | (go_at_call 69; (with_reducible refine (treeCheck_ok _ A l c Ha.out).mono ?_); rintro e1 w1 ⟨rfl, hb1⟩; rw [Hf.out])
        | (go_at_call 71; (with_reducible refine (treeRoot_ok _ ?hT A l c ?ha H1.out H60.out hc Ht.out).mono ?_); (case hT => (refine HT.out.below ?_; repeat' (first | exact Below.refl _ _ | assumption | refine Below.drew ?_ | refine below_drewN ?_ _ | refine Below.setCell ?_ (by first | (simp; done) | omega | (simp; omega)) _ | refine Below.alloc ?_ (by first | exact Nat.le_refl _ | omega | (simp; done) | (simp; omega)) _))); (case ha => (refine Ha.out.below pairR_stays ?_; repeat' (first | exact Below.refl _ _ | assumption | refine Below.drew ?_ | refine below_drewN ?_ _ | refine Below.setCell ?_ (by first | (simp; done) | omega | (simp; omega)) _ | refine Below.alloc ?_ (by first | exact Nat.le_refl _ | omega | (simp; done) | (simp; omega)) _))); rintro e2 w2 ⟨B, d, rfl, hs, hb2⟩; have hq2 : Below w.heap.size w w2 := (Below.next (by repeat' (first | exact Below.refl _ _ | assumption | refine Below.drew ?_ | refine below_drewN ?_ _ | refine Below.setCell ?_ (by first | (simp; done) | omega | (simp; omega)) _ | refine Below.alloc ?_ (by first | exact Nat.le_refl _ | omega | (simp; done) | (simp; omega)) _)) hb2 hb1.size)))
      go_ret2
      rw [Hv.out]
      exact ⟨B, d, rfl, hs.blo hb1.size, hq2⟩
  · have Hv := Lib.hid (show rootE l = ([], pairsFaultS l) by rw [rootE, if_neg hf])
    have hb : (pairsFaultS l != 0) = true := by simpa using hf
    clear hf
    go_enter Tryd.func32, Tryd.ntmps32
    go_wp2_with ((go_at_call 69; (with_reducible refine (treeCheck_ok _ A l c Ha.out).mono ?_); rintro e1 w1 ⟨rfl, hb1⟩))
    go_ret2
    rw [Hv.out]
    exact ⟨none, 0, rfl, SL.nil, hb1⟩
end Go.Proofs.YteacjkihjeiafaaDoor
