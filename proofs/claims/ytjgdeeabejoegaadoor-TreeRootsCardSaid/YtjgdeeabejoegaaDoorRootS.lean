/- Keys in order, and their bits; the root of pairs in plain words: no program. -/
import Derived.Test.YtjgdeeabejoegaaDoorOrder
import Derived.Test.YtjgdeeabejoegaaDoorPathBit
import Derived.Test.YtjgdeeabejoegaaDoorByteBits
import Derived.Test.YtjgdeeabejoegaaDoorPartLaws
import Derived.Test.YtjgdeeabejoegaaDoorKec
namespace Go.Proofs.YtjgdeeabejoegaaDoor
open Go.RowKit
set_option linter.unusedVariables false
set_option linter.unusedSimpArgs false

theorem bitB_get (a : List UInt8) (n : Nat) : bitB a n = (bits a).getD n false := by
  unfold bitB all145
  by_cases h : n < (bits a).length
  · rw [List.getD_eq_getElem?_getD, List.getElem?_append_left h, List.getD_eq_getElem?_getD]
  · rw [List.getD_eq_getElem?_getD, List.getElem?_append_right (by omega), List.getElem?_replicate, List.getD_eq_getElem?_getD, List.getElem?_eq_none (by omega)]
    split <;> rfl
theorem bitB_nil (n : Nat) : bitB [] n = false := by rw [bitB_get]; rfl
theorem bitB_head (x : UInt8) (a : List UInt8) : bitB (x :: a) 0 = true := by rw [bitB_get]; rfl
theorem bitB_byte (x : UInt8) (a : List UInt8) {j : Nat} (h : j < 8) : bitB (x :: a) (j + 1) = bitN x.toNat j := by
  rw [bitB_get, show bits (x :: a) = some9 x 8 ++ bits a from rfl, List.getD_eq_getElem?_getD, List.getElem?_append_left (by rw [some9_len]; omega)]
  simp only [some9, List.getElem?_cons_succ, List.getElem?_map]
  rw [List.getElem?_range h]
  rfl
theorem bitB_tail (x : UInt8) (a : List UInt8) (n : Nat) : bitB (x :: a) (n + 9) = bitB a n := by
  rw [bitB_get, bitB_get, show bits (x :: a) = some9 x 8 ++ bits a from rfl, List.getD_eq_getElem?_getD, List.getElem?_append_right (by rw [some9_len]; omega), some9_len, List.getD_eq_getElem?_getD]
  congr 2
theorem bitB_far {a : List UInt8} {n : Nat} (h : 9 * a.length ≤ n) : bitB a n = false := by
  rw [bitB_get, List.getD_eq_getElem?_getD, List.getElem?_eq_none (by rw [bits_len]; exact h)]
  rfl
/-- The bits of a are less than those of b: at bit d. -/
def LessAt (a b : List UInt8) (d : Nat) : Prop := (∀ n, n < d → bitB a n = bitB b n) ∧ bitB a d = false ∧ bitB b d = true
theorem less_of_lt : ∀ a b : List UInt8, lt a b = true → ∃ d, LessAt a b d
  | [], [], h => by simp [lt, Op.bytesLess] at h
  | _ :: _, [], h => by simp [lt, Op.bytesLess] at h
  | [], y :: b, _ => ⟨0, fun n h => absurd h (by omega), bitB_nil 0, bitB_head y b⟩
  | x :: a, y :: b, h => by
    have ih := less_of_lt a b
    simp only [lt, Op.bytesLess, Bool.or_eq_true, decide_eq_true_eq, Bool.and_eq_true, beq_iff_eq] at h ih
    rcases h with h | ⟨rfl, h⟩
    · obtain ⟨h1, ⟨h2, h3⟩, h4⟩ := byte_first x.toNat x.toNat_lt y.toNat y.toNat_lt h
      refine ⟨byteFirst x.toNat y.toNat + 1, fun n hn => ?_, by rw [bitB_byte x a h1]; exact h2, by rw [bitB_byte y b h1]; exact h3⟩
      rcases n with _ | n
      · rw [bitB_head, bitB_head]
      · rw [bitB_byte x a (by omega), bitB_byte y b (by omega)]
        have := List.all_eq_true.1 h4 n (List.mem_range.2 (by omega))
        simpa using this
    · obtain ⟨d, h1, h2, h3⟩ := ih h
      refine ⟨d + 9, fun n hn => ?_, by rw [bitB_tail]; exact h2, by rw [bitB_tail]; exact h3⟩
      by_cases h9 : n < 9
      · rcases n with _ | n
        · rw [bitB_head, bitB_head]
        · rw [bitB_byte x a (by omega), bitB_byte x b (by omega)]
      · obtain ⟨m, rfl⟩ : ∃ m, n = m + 9 := ⟨n - 9, by omega⟩
        rw [bitB_tail, bitB_tail]
        exact h1 m (by omega)
theorem less_not {a b : List UInt8} {d e : Nat} (h : LessAt a b d) (h' : LessAt b a e) : False := by
  obtain ⟨h1, h2, h3⟩ := h
  obtain ⟨g1, g2, g3⟩ := h'
  rcases (by omega : d < e ∨ d = e ∨ e < d) with hd | hd | hd
  · rw [← g1 d hd, h3] at h2; cases h2
  · subst hd; rw [h3] at g2; cases g2
  · rw [← h1 e hd, g3] at g2; cases g2
theorem less_lt {a b : List UInt8} {d : Nat} (h : LessAt a b d) : lt a b = true := by
  rcases Bool.eq_false_or_eq_true (lt a b) with h1 | h1
  · exact h1
  · rcases Bool.eq_false_or_eq_true (lt b a) with h2 | h2
    · obtain ⟨e, he⟩ := less_of_lt b a h2
      exact (less_not h he).elim
    · have e := lt_tri a b h1 h2
      subst e
      have h3 := h.2.1
      rw [h.2.2] at h3
      cases h3
theorem less_145 {a b : List UInt8} {d : Nat} (h : LessAt a b d) (hb : b.length ≤ 16) : d < 144 := by
  rcases Nat.lt_or_ge d 144 with h1 | h1
  · exact h1
  · have := bitB_far (a := b) (n := d) (by omega)
    rw [h.2.2] at this
    cases this
theorem firstNot_less {a b : List UInt8} {d : Nat} (h : LessAt a b d) : ∀ n k, k ≤ d → d < k + n → firstNot a b n k = d := by
  intro n
  induction n with
  | zero => intro k h1 h2; omega
  | succ n ih =>
    intro k h1 h2
    unfold firstNot
    by_cases hk : k = d
    · subst hk
      rw [if_neg (by rw [h.2.1, h.2.2]; decide)]
    · rw [if_pos (h.1 k (by omega))]
      exact ih (k + 1) (by omega) (by omega)
theorem part_less {a b : List UInt8} {d : Nat} (h : LessAt a b d) (hb : b.length ≤ 16) : firstNot a b 145 0 = d := firstNot_less h 145 0 (by omega) (by have := less_145 h hb; omega)

/-- The bit at which pairs that rise part: that of the first and of the last. -/
def partBit (l : List Pr) : Int := firstNot (l.getD 0 ([], [])).1 (l.getD (l.length - 1) ([], [])).1 145 0
/-- How many stand on the left. -/
def leftN (l : List Pr) : Nat := l.findIdx fun p => bitB p.1 (partBit l).toNat
/-- Pairs that rise, two at least. -/
structure Parts (l : List Pr) (d : Nat) : Prop where
  bit : partBit l = d
  d144 : d < 144
  least : ∀ i (h : i < l.length), 0 < i → ∃ e : Nat, d ≤ e ∧ e < 144 ∧ firstNot (l[0]'(by omega)).1 l[i].1 145 0 = e
  last : firstNot (l.getD 0 ([], [])).1 (l.getD (l.length - 1) ([], [])).1 145 0 = d
  mono : ∀ i j (hi : i < j) (hj : j < l.length), bitB (l[i]'(by omega)).1 d = true → bitB l[j].1 d = true
  first : ∀ h : 0 < l.length, bitB l[0].1 d = false
  end' : ∀ h : 0 < l.length, bitB (l[l.length - 1]'(by omega)).1 d = true
theorem parts_of {l : List Pr} (hr : Rise (l.map (·.1))) (hk : ∀ p ∈ l, p.1.length ≤ 16) (h2 : 2 ≤ l.length) : ∃ d, Parts l d := by
  have hlt : ∀ i j (hi : i < j) (hj : j < l.length), lt (l[i]'(by omega)).1 l[j].1 = true := by
    intro i j hi hj
    have := hr i j hi (by simpa using hj)
    simpa using this
  have h16 : ∀ i (hi : i < l.length), l[i].1.length ≤ 16 := fun i hi => hk _ (List.getElem_mem hi)
  obtain ⟨d, hd⟩ := less_of_lt _ _ (hlt 0 (l.length - 1) (by omega) (by omega))
  have e0 : l.getD 0 ([], []) = l[0] := by simp [List.getD_eq_getElem?_getD, List.getElem?_eq_getElem (show 0 < l.length by omega)]
  have e1 : l.getD (l.length - 1) ([], []) = l[l.length - 1] := by simp [List.getD_eq_getElem?_getD, List.getElem?_eq_getElem (show l.length - 1 < l.length by omega)]
  have hbit : firstNot (l.getD 0 ([], [])).1 (l.getD (l.length - 1) ([], [])).1 145 0 = d := by rw [e0, e1]; exact part_less hd (h16 _ _)
  have hleast : ∀ i (h : i < l.length), 0 < i → ∃ e : Nat, d ≤ e ∧ LessAt l[0].1 l[i].1 e := by
    intro i h hi
    obtain ⟨e, he⟩ := less_of_lt _ _ (hlt 0 i hi h)
    refine ⟨e, ?_, he⟩
    rcases Nat.lt_or_ge e d with hed | hed
    · exfalso
      have hl : LessAt (l[l.length - 1]).1 l[i].1 e := ⟨fun n hn => by rw [← hd.1 n (by omega)]; exact he.1 n hn, by rw [← hd.1 e hed]; exact he.2.1, he.2.2⟩
      by_cases hi' : i = l.length - 1
      · subst hi'
        have h3 := hl.2.1
        rw [hl.2.2] at h3
        cases h3
      · obtain ⟨f, hf⟩ := less_of_lt _ _ (hlt i (l.length - 1) (by omega) (by omega))
        exact less_not hl hf
    · exact hed
  have hagree : ∀ i (h : i < l.length) n, n < d → bitB l[i].1 n = bitB l[0].1 n := by
    intro i h n hn
    by_cases hi : i = 0
    · subst hi; rfl
    · obtain ⟨e, he, hl⟩ := hleast i h (by omega)
      exact (hl.1 n (by omega)).symm
  refine ⟨d, hbit, less_145 hd (h16 _ _), fun i h hi => ?_, hbit, fun i j hi hj hb => ?_, fun _ => hd.2.1, fun _ => hd.2.2⟩
  · obtain ⟨e, he, hl⟩ := hleast i h hi
    exact ⟨e, he, less_145 hl (h16 _ _), part_less hl (h16 _ _)⟩
  · rcases Bool.eq_false_or_eq_true (bitB l[j].1 d) with h1 | h1
    · exact h1
    · exfalso
      obtain ⟨f, hf⟩ := less_of_lt _ _ (hlt i j hi hj)
      exact less_not ⟨fun n hn => by rw [hagree j hj n hn, hagree i (by omega) n hn], h1, hb⟩ hf
/-- A length, two bytes. -/
def len2 (p : List UInt8) : List UInt8 := UInt8.ofNat (p.length / 256) :: UInt8.ofNat p.length :: p
def joinS (k : UInt8) (ps : List (List UInt8)) : List UInt8 := k :: ps.flatMap len2
def leafS (p : Pr) : List UInt8 := digS (joinS 1 [p.1, p.2])
def forkS (bit : Int) (a b : List UInt8) : List UInt8 := digS (joinS 2 [[UInt8.ofNat bit.toNat], a, b])
def noneS : List UInt8 := digS [0]
/-- The root of pairs that rise: so many rounds at most. -/
def rootF : Nat → List Pr → List UInt8
  | 0, _ => noneS
  | n + 1, l => if l.length = 0 then noneS else if l.length = 1 then leafS (l.getD 0 ([], [])) else forkS (partBit l) (rootF n (l.take (leftN l))) (rootF n (l.drop (leftN l)))
theorem root_len : ∀ n l, (rootF n l).length = 32
  | 0, l => dig_len _
  | n + 1, l => by
    unfold rootF
    split
    · exact dig_len _
    · split <;> exact dig_len _
theorem left_lt {l : List Pr} {d : Nat} (h : Parts l d) (h2 : 2 ≤ l.length) : 1 ≤ leftN l ∧ leftN l ≤ l.length - 1 ∧ (∀ i (hi : i < l.length), bitB l[i].1 d = decide (leftN l ≤ i)) := by
  obtain rfl : d = (partBit l).toNat := by rw [h.bit]; rfl
  have hno : ∀ i (hi : i < l.length), i < leftN l → bitB l[i].1 (partBit l).toNat = false := by
    intro i hi hl
    have := List.not_of_lt_findIdx (xs := l) (p := fun p : Pr => bitB p.1 (partBit l).toNat) hl
    simpa using this
  have h1 : leftN l ≤ l.length - 1 := by
    rcases Nat.lt_or_ge (l.length - 1) (leftN l) with h3 | h3
    · have h4 := hno (l.length - 1) (by omega) h3
      rw [h.end' (by omega)] at h4
      cases h4
    · exact h3
  have h0 : ∀ i (hi : i < leftN l), bitB (l[i]'(by omega)).1 (partBit l).toNat = false := fun i hi => hno i (by omega) hi
  have h3 : bitB (l[leftN l]'(by omega)).1 (partBit l).toNat = true :=
    List.findIdx_getElem (xs := l) (p := fun p : Pr => bitB p.1 (partBit l).toNat) (w := by unfold leftN at h1; omega)
  refine ⟨?_, h1, fun i hi => ?_⟩
  · rcases Nat.eq_zero_or_pos (leftN l) with h4 | h4
    · have := h.first (by omega)
      have h5 : bitB (l[0]'(by omega)).1 (partBit l).toNat = true := by
        have := h3
        simp only [h4] at this
        exact this
      rw [h5] at this
      cases this
    · exact h4
  · by_cases hl : leftN l ≤ i
    · rw [decide_eq_true hl]
      by_cases he : leftN l = i
      · subst he; exact h3
      · exact h.mono (leftN l) i (by omega) hi h3
    · rw [decide_eq_false hl]
      exact h0 i (by omega)
/-- More rounds change nothing. -/
theorem root_more : ∀ n m l, (Rise (l.map (·.1))) → (∀ p ∈ l, p.1.length ≤ 16) → l.length ≤ n → l.length ≤ m → rootF n l = rootF m l
  | 0, 0, _, _, _, _, _ => rfl
  | 0, m + 1, l, _, _, h, _ => by
    unfold rootF
    rw [if_pos (by omega)]
  | n + 1, 0, l, _, _, _, h => by
    unfold rootF
    rw [if_pos (by omega)]
  | n + 1, m + 1, l, hr, hk, h1, h2 => by
    unfold rootF
    by_cases h0 : l.length = 0
    · rw [if_pos h0, if_pos h0]
    · by_cases h3 : l.length = 1
      · rw [if_neg h0, if_neg h0, if_pos h3, if_pos h3]
      · obtain ⟨d, hp⟩ := parts_of hr hk (by omega)
        obtain ⟨g1, g2, _⟩ := left_lt hp (by omega)
        rw [if_neg h0, if_neg h0, if_neg h3, if_neg h3]
        have ht : Rise ((l.take (leftN l)).map (·.1)) := by
          intro i j hi hj
          simp only [List.length_map, List.length_take] at hj
          have := hr i j hi (by simp; omega)
          simpa using this
        have hd : Rise ((l.drop (leftN l)).map (·.1)) := by
          intro i j hi hj
          simp only [List.length_map, List.length_drop] at hj
          have := hr (leftN l + i) (leftN l + j) (by omega) (by simp; omega)
          simpa using this
        rw [root_more n m _ ht (fun p hp => hk p (List.mem_of_mem_take hp)) (by rw [List.length_take]; omega) (by rw [List.length_take]; omega),
          root_more n m _ hd (fun p hp => hk p (List.mem_of_mem_drop hp)) (by rw [List.length_drop]; omega) (by rw [List.length_drop]; omega)]
def rootS (l : List Pr) : List UInt8 := rootF l.length l
end Go.Proofs.YtjgdeeabejoegaaDoor
