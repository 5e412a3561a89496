/- LnD: Lines read, in plain words: what the program and the reference make of a line, and that both take the same lines for the same acts. No program. Lines read, in plain words: both take the same lines for the same acts. No program. The library's functions that reading lines calls, in plain words: TrimSuffix, Split, Atoi, IndexByte. Walk: lines.act: what the program makes of a line. Walks: the reference's wordsOf, whole, hexValue. The conditions of each are in its words. -/
import Derived.Lib.Split
import Derived.Lib.IndexMore
import Derived.Lib.CountLaws
import Derived.Lib.AtoiAll
import Derived.Lib.AtoiErrMem
import Derived.BigQuiet
import Derived.Deep.CutRange
import Derived.Lib.Strings
import Derived.Test.YtjidppcfjkjjoaaDoorKLnA
import Derived.Test.YtjidppcfjkjjoaaDoorKShelfR
import Derived.Test.YtjidppcfjkjjoaaDoorKLnB
namespace Go.Proofs.YtjidppcfjkjjoaaDoor
open Go.RowKit
set_option linter.unusedVariables false
set_option linter.unusedSimpArgs false

/-! ### parted by a byte -/
def cutW (c : UInt8) : List UInt8 → List (List UInt8)
  | [] => [[]]
  | x :: l => if x = c then [] :: cutW c l else match cutW c l with | w :: ws => (x :: w) :: ws | [] => [[x]]
theorem cutW_ne (c : UInt8) : ∀ l, cutW c l ≠ []
  | [] => by simp [cutW]
  | x :: l => by
    unfold cutW
    split
    · simp
    · split <;> simp
theorem cutW_none {c : UInt8} : ∀ {l : List UInt8}, c ∉ l → cutW c l = [l]
  | [], _ => rfl
  | x :: l, h => by
    have h1 : x ≠ c := fun e => h (by simp [e])
    have h2 : c ∉ l := fun e => h (by simp [e])
    unfold cutW
    rw [if_neg h1, cutW_none h2]
theorem cutW_app {c : UInt8} : ∀ {p q : List UInt8}, c ∉ p → cutW c (p ++ c :: q) = p :: cutW c q
  | [], q, _ => by simp [cutW]
  | x :: p, q, h => by
    have h1 : x ≠ c := fun e => h (by simp [e])
    have h2 : c ∉ p := fun e => h (by simp [e])
    rw [List.cons_append, cutW, if_neg h1, cutW_app h2]
theorem cutW_back {c : UInt8} : ∀ {s w : List UInt8} {ws : List (List UInt8)}, cutW c s = w :: ws → (ws = [] ∧ s = w ∧ c ∉ w) ∨ (∃ q, s = w ++ c :: q ∧ cutW c q = ws ∧ c ∉ w)
  | [], w, ws, h => by
    simp only [cutW, List.cons.injEq] at h
    exact .inl ⟨h.2.symm, h.1, by rw [← h.1]; simp⟩
  | x :: l, w, ws, h => by
    unfold cutW at h
    split at h
    · rename_i hx
      simp only [List.cons.injEq] at h
      exact .inr ⟨l, by rw [← h.1, hx]; rfl, h.2, by rw [← h.1]; simp⟩
    · rename_i hx
      cases hc : cutW c l with
      | nil => exact absurd hc (cutW_ne c l)
      | cons v vs =>
        rw [hc] at h
        simp only [List.cons.injEq] at h
        obtain ⟨h1, h2⟩ := h
        rcases cutW_back hc with ⟨e1, e2, e3⟩ | ⟨q, e1, e2, e3⟩
        · refine .inl ⟨h2 ▸ e1, by rw [← h1, e2], ?_⟩
          rw [← h1]
          simp only [List.mem_cons, not_or]
          exact ⟨fun e => hx e.symm, e3⟩
        · refine .inr ⟨q, by rw [← h1, e1]; rfl, by rw [← h2]; exact e2, ?_⟩
          rw [← h1]
          simp only [List.mem_cons, not_or]
          exact ⟨fun e => hx e.symm, e3⟩
theorem occ_one (s : List UInt8) (c : UInt8) (j : Nat) : Lib.occAt s [c] j = true ↔ s[j]? = some c := by
  unfold Lib.occAt
  cases h : s.drop j with
  | nil =>
    have : s.length ≤ j := by simpa using h
    rw [List.getElem?_eq_none this]
    simp
  | cons x r =>
    have hj : s[j]? = some x := by
      have := congrArg (·[0]?) h
      simpa using this
    rw [hj]
    simp only [List.isPrefixOf, Bool.and_true, beq_iff_eq, Option.some.injEq]
    exact eq_comm
/-- strings.Split by one byte. -/
theorem split_cut (c : UInt8) : ∀ (n : Nat) (s : List UInt8), s.length ≤ n → Lib.splitK [c] 0 (Lib.count s [c]) s = cutW c s := by
  intro n
  induction n with
  | zero =>
    intro s hs
    obtain rfl : s = [] := List.eq_nil_of_length_eq_zero (by omega)
    have hi : Lib.index [] [c] = -1 := Lib.index_none fun j _ => by
      rcases Bool.eq_false_or_eq_true (Lib.occAt [] [c] j) with h | h
      · rw [occ_one] at h; simp at h
      · exact h
    rw [Lib.count_miss hi]
    rfl
  | succ n ih =>
    intro s hs
    rcases Lib.index_spec s [c] with ⟨h1, h2⟩ | ⟨i, h1, h2, h3, h4⟩
    · rw [Lib.count_miss h1, cutW_none]
      · rfl
      · intro hm
        obtain ⟨j, hj, hc⟩ := List.getElem_of_mem hm
        have := h2 j (by omega)
        have h3 := (occ_one s c j).2 (by rw [List.getElem?_eq_getElem hj, hc])
        rw [h3] at this
        cases this
    · have hc := (occ_one s c i).1 h3
      obtain ⟨hi, hci⟩ := List.getElem?_eq_some_iff.1 hc
      have hs2 : s = s.take i ++ c :: s.drop (i + 1) := by
        rw [← hci, ← List.drop_eq_getElem_cons hi, List.take_append_drop]
      have hn : c ∉ s.take i := by
        intro hm
        obtain ⟨j, hj, hcj⟩ := List.getElem_of_mem hm
        rw [List.length_take] at hj
        have := h4 j (by omega)
        have h5 := (occ_one s c j).2 (by
          rw [List.getElem_take] at hcj
          rw [List.getElem?_eq_getElem (by omega), hcj])
        rw [h5] at this
        cases this
      rw [Lib.count_hit (by simp) h1, Nat.add_comm 1, Lib.splitK, if_neg (by rw [h1]; simp)]
      rw [h1]
      simp only [Int.toNat_natCast, List.length_cons, List.length_nil, Nat.add_zero, Nat.zero_add]
      rw [ih (s.drop (i + 1)) (by rw [List.length_drop]; omega)]
      conv => rhs; rw [hs2]
      rw [cutW_app hn]
/-! ### numbers -/
def wholeF : List UInt8 → Nat → Int
  | [], n => n
  | c :: r, n => if c.toNat < 48 ∨ 57 < c.toNat then -1 else wholeF r (10 * n + (c.toNat - 48))
/-- A whole number's digits, without noughts ahead, six at most. -/
def wholeS (s : List UInt8) : Int := if s.length = 0 ∨ 6 < s.length ∨ (s.head? = some 48 ∧ 1 < s.length) then -1 else wholeF s 0
def DigitB (c : UInt8) : Prop := 48 ≤ c.toNat ∧ c.toNat ≤ 57
theorem wholeF_ge : ∀ (s : List UInt8) (n : Nat), (wholeF s n = -1 ∧ ∃ c ∈ s, ¬ DigitB c) ∨ (0 ≤ wholeF s n ∧ ∀ c ∈ s, DigitB c)
  | [], n => .inr ⟨by simp [wholeF], by simp⟩
  | c :: r, n => by
    unfold wholeF
    by_cases h : c.toNat < 48 ∨ 57 < c.toNat
    · rw [if_pos h]
      exact .inl ⟨rfl, c, by simp, fun q => by unfold DigitB at q; omega⟩
    · rw [if_neg h]
      rcases wholeF_ge r (10 * n + (c.toNat - 48)) with ⟨h1, d, h2, h3⟩ | ⟨h1, h2⟩
      · exact .inl ⟨h1, d, by simp [h2], h3⟩
      · refine .inr ⟨h1, fun d hd => ?_⟩
        rcases List.mem_cons.1 hd with e | e
        · rw [e]; unfold DigitB; omega
        · exact h2 d e
theorem wholeF_snoc : ∀ (s : List UInt8) (n : Nat) (c : UInt8), (∀ x ∈ s, DigitB x) → DigitB c → wholeF (s ++ [c]) n = 10 * wholeF s n + (c.toNat - 48)
  | [], n, c, _, hc => by
    unfold DigitB at hc
    simp only [List.nil_append, wholeF]
    rw [if_neg (by omega)]
    omega
  | x :: s, n, c, hs, hc => by
    have hx := hs x (by simp)
    unfold DigitB at hx
    rw [List.cons_append]
    simp only [wholeF]
    rw [if_neg (by omega), if_neg (by omega), wholeF_snoc s _ c (fun y hy => hs y (by simp [hy])) hc]
theorem dec_step {m d : Nat} (hm : 0 < m) (hd : d < 10) : Lib.decDigits (10 * m + d) = Lib.decDigits m ++ [UInt8.ofNat (48 + d)] := by
  rw [Lib.decDigits, dif_neg (by omega), show (10 * m + d) / 10 = m by omega, show (10 * m + d) % 10 = d by omega]
theorem byte_of {c : UInt8} (h : DigitB c) : UInt8.ofNat (48 + (c.toNat - 48)) = c := by
  unfold DigitB at h
  rw [show 48 + (c.toNat - 48) = c.toNat by omega, UInt8.ofNat_toNat]
/-- Digits that do not begin with a nought are those of what they say. -/
theorem whole_back : ∀ (n : Nat) (s : List UInt8), s.length = n → s ≠ [] → (∀ c ∈ s, DigitB c) → s.head? ≠ some 48 → ∃ m : Nat, wholeF s 0 = m ∧ 0 < m ∧ Lib.decDigits m = s := by
  intro n
  induction n with
  | zero => intro s h1 h2; exact absurd (List.eq_nil_of_length_eq_zero h1) h2
  | succ n ih =>
    intro s h1 h2 h3 h4
    obtain ⟨p, c, rfl⟩ : ∃ p c, s = p ++ [c] := ⟨s.dropLast, s.getLast h2, (List.dropLast_concat_getLast h2).symm⟩
    have hc := h3 c (by simp)
    have hc' := hc
    unfold DigitB at hc'
    by_cases hp : p = []
    · subst hp
      have hne : c ≠ 48 := fun e => h4 (by simp [e])
      have hc48 : c.toNat ≠ 48 := fun e => hne (by rw [← UInt8.ofNat_toNat (x := c), e]; rfl)
      refine ⟨c.toNat - 48, ?_, by omega, ?_⟩
      · simp only [List.nil_append, wholeF]
        rw [if_neg (by omega)]
        simp
      · rw [Lib.decDigits, dif_pos (by omega), byte_of hc]
        rfl
    · obtain ⟨m, e1, e2, e3⟩ := ih p (by simp at h1; omega) hp (fun x hx => h3 x (by simp [hx])) (by
        cases p with
        | nil => exact absurd rfl hp
        | cons x p => simpa using h4)
      refine ⟨10 * m + (c.toNat - 48), ?_, by omega, ?_⟩
      · rw [wholeF_snoc p 0 c (fun x hx => h3 x (by simp [hx])) hc, e1]
        omega
      · rw [dec_step e2 (by omega), e3, byte_of hc]
theorem wholeS_back {s : List UInt8} {n : Nat} (h : wholeS s = n) : Lib.decDigits n = s := by
  unfold wholeS at h
  split at h
  · omega
  · rename_i hn
    have hl : s.length ≠ 0 := fun e => hn (.inl e)
    have hne : s ≠ [] := fun e => hl (by rw [e]; rfl)
    rcases wholeF_ge s 0 with ⟨h1, _⟩ | ⟨_, hd⟩
    · omega
    · by_cases hh : s.head? = some 48
      · have h1 : s.length = 1 := by
          rcases Nat.lt_or_ge 1 s.length with q | q
          · exact absurd (.inr (.inr ⟨hh, q⟩)) hn
          · omega
        obtain ⟨c, rfl⟩ := List.length_eq_one_iff.1 h1
        simp at hh
        subst hh
        have : wholeF [48] 0 = 0 := rfl
        rw [this] at h
        obtain rfl : n = 0 := by omega
        rw [Lib.decDigits]
        rfl
      · obtain ⟨m, e1, _, e3⟩ := whole_back s.length s rfl hne hd hh
        rw [e1] at h
        obtain rfl : m = n := by omega
        exact e3
theorem dec_digit : ∀ (n : Nat), ∀ c ∈ Lib.decDigits n, DigitB c := by
  intro n
  induction n using Nat.strongRecOn with
  | ind n ih =>
    intro c hc
    rw [Lib.decDigits] at hc
    split at hc
    · simp only [List.mem_singleton] at hc
      rw [hc]
      unfold DigitB
      rw [UInt8.toNat_ofNat']
      omega
    · rcases List.mem_append.1 hc with h | h
      · exact ih _ (by omega) c h
      · simp only [List.mem_singleton] at h
        rw [h]
        unfold DigitB
        rw [UInt8.toNat_ofNat']
        omega
theorem wholeF_dec : ∀ (n : Nat), wholeF (Lib.decDigits n) 0 = n := by
  intro n
  induction n using Nat.strongRecOn with
  | ind n ih =>
    rw [Lib.decDigits]
    split
    · simp only [wholeF]
      rw [UInt8.toNat_ofNat', if_neg (by omega)]
      omega
    · rw [wholeF_snoc _ _ _ (dec_digit _) (by unfold DigitB; rw [UInt8.toNat_ofNat']; omega), ih _ (by omega), UInt8.toNat_ofNat']
      omega
theorem dec_head : ∀ (n : Nat), 0 < n → (Lib.decDigits n).head? ≠ some 48 ∧ Lib.decDigits n ≠ [] := by
  intro n
  induction n using Nat.strongRecOn with
  | ind n ih =>
    intro hn
    rw [Lib.decDigits]
    split
    · refine ⟨?_, by simp⟩
      simp only [List.head?_cons, ne_eq, Option.some.injEq]
      intro e
      have := congrArg UInt8.toNat e
      rw [UInt8.toNat_ofNat'] at this
      simp at this
      omega
    · obtain ⟨h1, h2⟩ := ih (n / 10) (by omega) (by omega)
      refine ⟨?_, by simp⟩
      cases hd : Lib.decDigits (n / 10) with
      | nil => exact absurd hd h2
      | cons x l =>
        rw [hd] at h1
        simpa using h1
theorem wholeS_dec {n : Nat} (h : n ≤ 200000) : wholeS (Lib.decDigits n) = n := by
  have hl := digits_len n h
  unfold wholeS
  rw [if_neg, wholeF_dec]
  rintro (e | e | ⟨e1, e2⟩)
  · have := List.eq_nil_of_length_eq_zero e
    rcases Nat.eq_zero_or_pos n with h0 | h0
    · subst h0; rw [Lib.decDigits] at this; simp at this
    · exact (dec_head n h0).2 this
  · omega
  · rcases Nat.eq_zero_or_pos n with h0 | h0
    · subst h0; rw [Lib.decDigits] at e2; simp at e2
    · exact (dec_head n h0).1 e1
/-- What strconv.Atoi hands back, the error left aside. -/
def atoiV (s : List UInt8) : Int := match Lib.atoiAll s with | .ok v => v | .range => Lib.atoiSat s | _ => 0
theorem parse_dec : ∀ (s : List UInt8) (acc : Nat), (∀ c ∈ s, DigitB c) → wholeF s acc ≤ 200000 → Lib.parseUint10 acc s = .ok (wholeF s acc).toNat
  | [], acc, _, _ => by simp [Lib.parseUint10, wholeF]
  | c :: r, acc, hd, hl => by
    have hc := hd c (by simp)
    unfold DigitB at hc
    have hw : wholeF (c :: r) acc = wholeF r (10 * acc + (c.toNat - 48)) := by simp only [wholeF]; rw [if_neg (by omega)]
    rw [hw] at hl ⊢
    have hm : ∀ (s : List UInt8) (n : Nat), (∀ c ∈ s, DigitB c) → (n : Int) ≤ wholeF s n := by
      intro s
      induction s with
      | nil => intro n _; exact Int.le_refl _
      | cons x s ih =>
        intro n hx
        have hx1 := hx x (by simp)
        unfold DigitB at hx1
        simp only [wholeF]
        rw [if_neg (by omega)]
        have := ih (10 * n + (x.toNat - 48)) fun y hy => hx y (by simp [hy])
        omega
    have h1 := hm r (10 * acc + (c.toNat - 48)) fun y hy => hd y (by simp [hy])
    rw [Lib.parseUint10, if_pos hc, if_neg (by omega), if_neg (by omega), show acc * 10 + (c.toNat - 48) = 10 * acc + (c.toNat - 48) by omega]
    exact parse_dec r _ (fun y hy => hd y (by simp [hy])) hl
theorem atoiV_dec {n : Nat} (h : n ≤ 200000) : atoiV (Lib.decDigits n) = n := by
  have hd := dec_digit n
  have hw := wholeF_dec n
  have hne : Lib.decDigits n ≠ [] := by
    rcases Nat.eq_zero_or_pos n with h0 | h0
    · subst h0; rw [Lib.decDigits]; simp
    · exact (dec_head n h0).2
  generalize Lib.decDigits n = s at *
  cases s with
  | nil => exact absurd rfl hne
  | cons c r =>
    have hc := hd c (by simp)
    unfold DigitB at hc
    have hp : Lib.parseMag (c :: r) = .ok n := by
      unfold Lib.parseMag
      rw [if_neg hne, parse_dec (c :: r) 0 hd (by rw [hw]; omega), hw]
      rfl
    unfold atoiV Lib.atoiAll
    dsimp only
    rw [if_neg (by omega), hp]
    dsimp only
    rw [if_neg (by omega), if_neg (by omega), if_neg (by omega)]
/-! ### hex digits -/
def hexV (c : UInt8) : Int := if 48 ≤ c.toNat ∧ c.toNat ≤ 57 then (c.toNat : Int) - 48 else if 97 ≤ c.toNat ∧ c.toNat ≤ 102 then (c.toNat : Int) - 97 + 10 else -1
theorem hexV_hexD : ∀ n, n < 16 → hexV (hexD n) = n := by decide
theorem hexD_hexV : ∀ c : UInt8, 0 ≤ hexV c → hexD (hexV c).toNat = c ∧ (hexV c).toNat < 16 := by
  intro c h
  have hc : c = UInt8.ofNat c.toNat := (UInt8.ofNat_toNat).symm
  have hl := c.toNat_lt
  unfold hexV at *
  by_cases h1 : 48 ≤ c.toNat ∧ c.toNat ≤ 57
  · rw [if_pos h1]
    have e : ((c.toNat : Int) - 48).toNat = c.toNat - 48 := by omega
    rw [e]
    unfold hexD
    rw [if_pos (by omega), show 48 + (c.toNat - 48) = c.toNat by omega]
    exact ⟨hc.symm, by omega⟩
  · rw [if_neg h1] at h ⊢
    by_cases h2 : 97 ≤ c.toNat ∧ c.toNat ≤ 102
    · rw [if_pos h2]
      have e : ((c.toNat : Int) - 97 + 10).toNat = c.toNat - 87 := by omega
      rw [e]
      unfold hexD
      rw [if_neg (by omega), show 87 + (c.toNat - 87) = c.toNat by omega]
      exact ⟨hc.symm, by omega⟩
    · rw [if_neg h2] at h
      omega
def hexF : List UInt8 → Option (List UInt8)
  | c0 :: c1 :: r => if hexV c0 < 0 ∨ hexV c1 < 0 then none else (hexF r).map fun d => UInt8.ofNat (16 * hexV c0 + hexV c1).toNat :: d
  | _ => some []
theorem hexF_hexS : ∀ d : List UInt8, hexF (hexS d) = some d
  | [] => rfl
  | b :: d => by
    have hb := b.toNat_lt
    have e : hexS (b :: d) = hexD (b.toNat / 16) :: hexD (b.toNat % 16) :: hexS d := rfl
    rw [e, hexF, hexV_hexD _ (by omega), hexV_hexD _ (by omega), if_neg (by omega), hexF_hexS d]
    have e2 : (16 * ((b.toNat / 16 : Nat) : Int) + ((b.toNat % 16 : Nat) : Int)).toNat = b.toNat := by omega
    rw [e2, UInt8.ofNat_toNat]
    rfl
theorem hexF_back : ∀ (n : Nat) (s d : List UInt8), s.length ≤ n → s.length % 2 = 0 → hexF s = some d → hexS d = s
  | 0, s, d, h1, _, h => by
    obtain rfl : s = [] := List.eq_nil_of_length_eq_zero (by omega)
    simp only [hexF, Option.some.injEq] at h
    rw [← h]
    rfl
  | n + 1, [], d, _, _, h => by
    simp only [hexF, Option.some.injEq] at h
    rw [← h]
    rfl
  | n + 1, [c], d, _, h2, _ => by simp at h2
  | n + 1, c0 :: c1 :: r, d, h1, h2, h => by
    rw [hexF] at h
    split at h
    · cases h
    · rename_i hn
      rw [Option.map_eq_some_iff] at h
      obtain ⟨d', hd, rfl⟩ := h
      have ih := hexF_back n r d' (by simp at h1; omega) (by simp at h2; omega) hd
      obtain ⟨a1, a2⟩ := hexD_hexV c0 (by omega)
      obtain ⟨b1, b2⟩ := hexD_hexV c1 (by omega)
      have e : (UInt8.ofNat (16 * hexV c0 + hexV c1).toNat).toNat = 16 * (hexV c0).toNat + (hexV c1).toNat := by
        rw [UInt8.toNat_ofNat']
        omega
      have e2 : hexS (UInt8.ofNat (16 * hexV c0 + hexV c1).toNat :: d') = hexD ((UInt8.ofNat (16 * hexV c0 + hexV c1).toNat).toNat / 16) :: hexD ((UInt8.ofNat (16 * hexV c0 + hexV c1).toNat).toNat % 16) :: hexS d' := rfl
      rw [e2, e, show (16 * (hexV c0).toNat + (hexV c1).toNat) / 16 = (hexV c0).toNat by omega, show (16 * (hexV c0).toNat + (hexV c1).toNat) % 16 = (hexV c1).toNat by omega, a1, b1, ih]
end Go.Proofs.YtjidppcfjkjjoaaDoor
namespace Go.Proofs.YtjidppcfjkjjoaaDoor
open Go.RowKit
set_option linter.unusedVariables false
set_option linter.unusedSimpArgs false

def noLn : Le := ⟨0, 0, 0, []⟩
/-- The kind that a word says, as far as the table has been looked through. -/
def kindUp (w : List UInt8) : Nat → Int
  | 0 => 0
  | k + 1 => if 0 < k ∧ wordS k = w then (k : Int) else kindUp w k
def kindOf (w : List UInt8) : Int := kindUp w 5
def digs : List UInt8 := [48, 49, 50, 51, 52, 53, 54, 55, 56, 57, 97, 98, 99, 100, 101, 102]
/-- The byte that the program makes of two digits. -/
def hexB (c0 c1 : UInt8) : UInt8 := UInt8.ofNat (IntKind.u8.wrap (bits .or .i64 (IntKind.i64.wrap (Lib.indexByte digs c0 * 16)) (bits .and .i64 (Lib.indexByte digs c1) 15))).toNat
theorem hexB_val (c0 c1 : UInt8) : IntKind.u8.wrap (bits .or .i64 (IntKind.i64.wrap (Lib.indexByte digs c0 * 16)) (bits .and .i64 (Lib.indexByte digs c1) 15)) = ((hexB c0 c1).toNat : Int) := by
  unfold hexB
  rw [UInt8.toNat_ofNat', IntKind.wrap_u8]
  omega
def unhexP : List UInt8 → List UInt8
  | c0 :: c1 :: r => hexB c0 c1 :: unhexP r
  | _ => []
theorem hexB_ok : ∀ x, x < 16 → ∀ y, y < 16 → hexB (hexD x) (hexD y) = UInt8.ofNat (16 * x + y) := by decide +kernel
theorem unhexP_hexS : ∀ d : List UInt8, unhexP (hexS d) = d
  | [] => rfl
  | b :: d => by
    have hb := b.toNat_lt
    have e : hexS (b :: d) = hexD (b.toNat / 16) :: hexD (b.toNat % 16) :: hexS d := rfl
    rw [e, unhexP, hexB_ok _ (by omega) _ (by omega), unhexP_hexS d, show 16 * (b.toNat / 16) + b.toNat % 16 = b.toNat by omega, UInt8.ofNat_toNat]
theorem unhexP_len : ∀ (n : Nat) (l : List UInt8), l.length ≤ n → (unhexP l).length ≤ l.length
  | 0, l, h => by
    obtain rfl : l = [] := List.eq_nil_of_length_eq_zero (by omega)
    exact Nat.le_refl _
  | n + 1, [], _ => Nat.le_refl _
  | n + 1, [c], _ => Nat.zero_le _
  | n + 1, c0 :: c1 :: r, h => by
    have := unhexP_len n r (by simp at h; omega)
    simp [unhexP]
    omega
def trimN (s : List UInt8) : List UInt8 := if s.getLast? = some 10 then s.dropLast else s
theorem trimN_feed (s : List UInt8) : trimN (s ++ [10]) = s := by simp [trimN]
/-- What the program makes of a line. -/
def actOf (l : List (List UInt8)) : Le :=
  match l with
  | [] => noLn
  | [w] => ⟨kindOf w, 0, 0, []⟩
  | w :: v :: r => if kindOf w = 3 then ⟨3, 0, atoiV v, []⟩ else if kindOf w = 1 then ⟨1, atoiV v, 0, unhexP ((v :: r).getLast (by simp))⟩ else ⟨kindOf w, 0, 0, []⟩
def pS (s : List UInt8) : Le := actOf (cutW 32 (trimN s))
def refC (s : List UInt8) : Le :=
  match cutW 32 s with
  | [w] => if w = [115, 121, 110, 99] then ⟨2, 0, 0, []⟩ else if w = [115, 116, 97, 114, 116] then ⟨4, 0, 0, []⟩ else noLn
  | [w, v] => if w = [99, 114, 97, 115, 104] then ⟨3, 0, wholeS v, []⟩ else noLn
  | [w, v, h] => if w = [97, 115, 107] ∧ h.length % 2 = 0 then (match hexF h with | none => noLn | some d => ⟨1, wholeS v, 0, d⟩) else noLn
  | _ => noLn
/-- What the reference makes of a line without its feed; kind 0: no act. -/
def refS (s : List UInt8) : Le := if (refC s).kind = 0 ∨ lnFault (refC s) ≠ 0 then noLn else refC s
theorem ln_form {a : Le} (h : lnFault a = 0) : (∃ s : Nat, s < 8 ∧ a = ⟨1, s, 0, a.data⟩) ∨ a = ⟨2, 0, 0, []⟩ ∨ (∃ p : Nat, p ≤ 200000 ∧ a = ⟨3, 0, p, []⟩) ∨ a = ⟨4, 0, 0, []⟩ := by
  obtain ⟨k, s, p, d⟩ := a
  unfold lnFault actFaultS at h
  dsimp only at h
  split at h
  · cases h
  · split at h
    · cases h
    · split at h
      · cases h
      · split at h
        · cases h
        · have hd : k ≠ 1 → d = [] := fun hk => List.eq_nil_of_length_eq_zero (by omega)
          rcases (by omega : k = 1 ∨ k = 2 ∨ k = 3 ∨ k = 4) with e | e | e | e
          · refine .inl ⟨s.toNat, by omega, ?_⟩
            rw [e, show p = 0 by omega, Int.toNat_of_nonneg (by omega)]
          · rw [e, hd (by omega), show s = 0 by omega, show p = 0 by omega]
            exact .inr (.inl rfl)
          · refine .inr (.inr (.inl ⟨p.toNat, by omega, ?_⟩))
            rw [e, hd (by omega), show s = 0 by omega, Int.toNat_of_nonneg (by omega)]
          · rw [e, hd (by omega), show s = 0 by omega, show p = 0 by omega]
            exact .inr (.inr (.inr rfl))
theorem no_blank_dec (n : Nat) : (32 : UInt8) ∉ Lib.decDigits n := fun h => by
  have := dec_digit n 32 h
  unfold DigitB at this
  simp at this
theorem no_blank_hex : ∀ d : List UInt8, (32 : UInt8) ∉ hexS d := by
  have h16 : ∀ n, n < 16 → (32 : UInt8) ≠ hexD n := by decide
  intro d
  induction d with
  | nil => simp [hexS]
  | cons b d ih =>
    have hb := b.toNat_lt
    have e : hexS (b :: d) = hexD (b.toNat / 16) :: hexD (b.toNat % 16) :: hexS d := rfl
    rw [e]
    simp only [List.mem_cons, not_or]
    exact ⟨h16 _ (by omega), h16 _ (by omega), ih⟩
theorem cut_ask (s : Nat) (d : List UInt8) : cutW 32 (lnBody ⟨1, s, 0, d⟩) = [[97, 115, 107], Lib.decDigits s, hexS d] := by
  have e : lnBody ⟨1, s, 0, d⟩ = [97, 115, 107] ++ 32 :: (Lib.decDigits s ++ 32 :: hexS d) := by simp [lnBody]
  rw [e, cutW_app (by decide), cutW_app (no_blank_dec s), cutW_none (no_blank_hex d)]
theorem cut_crash (p : Nat) : cutW 32 (lnBody ⟨3, 0, p, []⟩) = [[99, 114, 97, 115, 104], Lib.decDigits p] := by
  have e : lnBody ⟨3, 0, p, []⟩ = [99, 114, 97, 115, 104] ++ 32 :: Lib.decDigits p := by simp [lnBody]
  rw [e, cutW_app (by decide), cutW_none (no_blank_dec p)]
theorem cut_sync : cutW 32 (lnBody ⟨2, 0, 0, []⟩) = [[115, 121, 110, 99]] := by decide
theorem cut_start : cutW 32 (lnBody ⟨4, 0, 0, []⟩) = [[115, 116, 97, 114, 116]] := by decide
theorem back_p {a : Le} (h : lnFault a = 0) : pS (lnS a) = a := by
  unfold pS lnS
  rw [trimN_feed]
  rcases ln_form h with ⟨s, hs, e⟩ | e | ⟨p, hp, e⟩ | e
  · rw [e, cut_ask]
    have hk : kindOf [97, 115, 107] = 1 := by decide
    unfold actOf
    dsimp only
    rw [hk, if_neg (by decide), if_pos rfl, atoiV_dec (by omega)]
    simp [unhexP_hexS]
  · rw [e, cut_sync]
    show (⟨kindOf [115, 121, 110, 99], 0, 0, []⟩ : Le) = _
    rw [show kindOf [115, 121, 110, 99] = 2 by decide]
  · rw [e, cut_crash]
    have hk : kindOf [99, 114, 97, 115, 104] = 3 := by decide
    unfold actOf
    dsimp only
    rw [hk, if_pos rfl, atoiV_dec (by omega)]
  · rw [e, cut_start]
    show (⟨kindOf [115, 116, 97, 114, 116], 0, 0, []⟩ : Le) = _
    rw [show kindOf [115, 116, 97, 114, 116] = 4 by decide]
theorem ln_kind_ne {a : Le} (h : lnFault a = 0) : a.kind ≠ 0 := by
  rcases ln_form h with ⟨s, hs, e⟩ | e | ⟨p, hp, e⟩ | e <;> rw [e]
  · show (1 : Int) ≠ 0; decide
  · show (2 : Int) ≠ 0; decide
  · show (3 : Int) ≠ 0; decide
  · show (4 : Int) ≠ 0; decide
theorem back_r {a : Le} (h : lnFault a = 0) : refS (lnBody a) = a := by
  have hc : refC (lnBody a) = a := by
    unfold refC
    rcases ln_form h with ⟨s, hs, e⟩ | e | ⟨p, hp, e⟩ | e
    · rw [e, cut_ask]
      dsimp only
      rw [if_pos ⟨rfl, by rw [hexS_len]; omega⟩, hexF_hexS, wholeS_dec (by omega)]
    · rw [e, cut_sync]; rfl
    · rw [e, cut_crash]
      dsimp only
      rw [if_pos rfl, wholeS_dec hp]
    · rw [e, cut_start]; rfl
  unfold refS
  rw [hc, if_neg (by
    rintro (q | q)
    · exact ln_kind_ne h q
    · exact q h)]
theorem ref_back {s : List UInt8} (h : (refS s).kind ≠ 0) : lnFault (refS s) = 0 ∧ lnBody (refS s) = s := by
  unfold refS at h ⊢
  by_cases hn : (refC s).kind = 0 ∨ lnFault (refC s) ≠ 0
  · rw [if_pos hn] at h
    exact absurd rfl h
  · rw [if_neg hn] at h ⊢
    have h0 : lnFault (refC s) = 0 := by
      rcases Decidable.em (lnFault (refC s) = 0) with q | q
      · exact q
      · exact absurd (.inr q) hn
    refine ⟨h0, ?_⟩
    have hform := ln_form h0
    clear hn
    unfold refC at h h0 hform ⊢
    cases hc : cutW 32 s with
    | nil => exact absurd hc (cutW_ne 32 s)
    | cons w r =>
      rw [hc] at h h0 hform
      rcases cutW_back hc with ⟨e1, e2, _⟩ | ⟨q, e1, e2, _⟩
      · subst e1
        dsimp only at h h0 hform ⊢
        split
        · rename_i hw; rw [e2, hw]; rfl
        · rename_i hw
          rw [if_neg hw] at h
          split
          · rename_i hw2; rw [e2, hw2]; rfl
          · rename_i hw2
            rw [if_neg hw2] at h
            exact absurd rfl h
      · cases hq : cutW 32 q with
        | nil => exact absurd hq (cutW_ne 32 q)
        | cons v r2 =>
          rw [hq] at e2
          subst e2
          rcases cutW_back hq with ⟨f1, f2, _⟩ | ⟨q2, f1, f2, _⟩
          · subst f1
            dsimp only at h h0 hform ⊢
            by_cases hw : w = [99, 114, 97, 115, 104]
            · rw [if_pos hw] at h0 hform ⊢
              rcases hform with ⟨s', hs, e⟩ | e | ⟨p, hp, e⟩ | e
              · injection e with e; cases e
              · injection e with e; cases e
              · injection e with _ _ e _
                have := wholeS_back e
                rw [e, e1, f2, hw]
                simp [lnBody, this]
              · injection e with e; cases e
            · rw [if_neg hw] at h
              exact absurd rfl h
          · cases hq2 : cutW 32 q2 with
            | nil => exact absurd hq2 (cutW_ne 32 q2)
            | cons x r3 =>
              rw [hq2] at f2
              subst f2
              cases r3 with
              | cons y r4 => exact absurd rfl h
              | nil =>
                rcases cutW_back hq2 with ⟨g1, g2, _⟩ | ⟨q3, g1, g2, _⟩
                · dsimp only at h h0 hform ⊢
                  by_cases hw : w = [97, 115, 107] ∧ x.length % 2 = 0
                  · rw [if_pos hw] at h h0 hform ⊢
                    cases hx : hexF x with
                    | none => rw [hx] at h; exact absurd rfl h
                    | some d =>
                      rw [hx] at hform
                      dsimp only at hform ⊢
                      rcases hform with ⟨s', hs, e⟩ | e | ⟨p, hp, e⟩ | e
                      · injection e with _ e _ _
                        have h1 := wholeS_back e
                        have h2 := hexF_back x.length x d (Nat.le_refl _) hw.2 hx
                        rw [e, e1, f1, g2, hw.1]
                        simp [lnBody, h1, h2]
                      · injection e with e; cases e
                      · injection e with e; cases e
                      · injection e with e; cases e
                  · rw [if_neg hw] at h
                    exact absurd rfl h
                · exact absurd g2 (cutW_ne 32 q3)
/-- The act that a line says; none: it says none. -/
def okS (s : List UInt8) : Option Le := if lnFault (pS s) = 0 ∧ lnS (pS s) = s then some (pS s) else none
theorem okS_ref (s : List UInt8) : okS (s ++ [10]) = if (refS s).kind ≠ 0 then some (refS s) else none := by
  by_cases h : (refS s).kind ≠ 0
  · obtain ⟨h1, h2⟩ := ref_back h
    have e : lnS (refS s) = s ++ [10] := by unfold lnS; rw [h2]
    have hp : pS (s ++ [10]) = refS s := by rw [← e, back_p h1]
    unfold okS
    rw [hp, if_pos ⟨h1, e⟩, if_pos h]
  · rw [if_neg h]
    unfold okS
    rw [if_neg]
    rintro ⟨h1, h2⟩
    have e : lnBody (pS (s ++ [10])) = s := List.append_cancel_right h2
    have := back_r h1
    rw [e] at this
    rw [this] at h
    exact h (ln_kind_ne h1)
theorem okS_bare {s : List UInt8} (h : s.getLast? ≠ some 10) : okS s = none := by
  unfold okS
  rw [if_neg]
  rintro ⟨_, h2⟩
  apply h
  rw [← h2]
  simp [lnS]
/-! ### lines of a text -/
def linesOf : List UInt8 → List (List UInt8)
  | [] => []
  | x :: l => if x = 10 then [10] :: linesOf l else match linesOf l with | [] => [[x]] | w :: ws => (x :: w) :: ws
theorem linesOf_app : ∀ {p q : List UInt8}, (10 : UInt8) ∉ p → linesOf (p ++ 10 :: q) = (p ++ [10]) :: linesOf q
  | [], q, _ => by simp [linesOf]
  | x :: p, q, h => by
    have h1 : x ≠ 10 := fun e => h (by simp [e])
    have h2 : (10 : UInt8) ∉ p := fun e => h (by simp [e])
    rw [List.cons_append, linesOf, if_neg h1, linesOf_app h2]
    rfl
theorem linesOf_one : ∀ {p : List UInt8}, (10 : UInt8) ∉ p → p ≠ [] → linesOf p = [p]
  | [], _, h => absurd rfl h
  | [x], h, _ => by
    have h1 : x ≠ 10 := fun e => h (by simp [e])
    simp [linesOf, h1]
  | x :: y :: p, h, _ => by
    have h1 : x ≠ 10 := fun e => h (by simp [e])
    have h2 : (10 : UInt8) ∉ y :: p := fun e => h (by simp [e])
    rw [linesOf, if_neg h1, linesOf_one h2 (by simp)]
def readFrom : List (List UInt8) → List Le → List Le × Int × Int
  | [], acc => (acc, 0, 0)
  | s :: r, acc => if acc.length = 100000 then ([], 100000, 11) else match okS s with | none => ([], acc.length, 4) | some a => readFrom r (acc ++ [a])
/-- What Read and ActsRead answer. -/
def readS (t : List UInt8) : List Le × Int × Int := if 2000000 < t.length then ([], 0, 1) else readFrom (linesOf t) []
end Go.Proofs.YtjidppcfjkjjoaaDoor
namespace Go.Proofs.YtjidppcfjkjjoaaDoor
open Go.RowKit
set_option linter.unusedVariables false
set_option linter.unusedSimpArgs false

theorem var_below {P : Program} {w w' : World} {name : String} {cs : Array Value} (h : w.var? P name = some cs) (hb : Below w.heap.size w w') : w'.var? P name = some cs := by
  unfold World.var? at *
  cases hg : P.globalNamed name with
  | none => simp [hg] at h
  | some g =>
    simp only [hg, Option.bind_some] at h ⊢
    have hlt : g < w.heap.size := by
      rcases Nat.lt_or_ge g w.heap.size with h' | h'
      · exact h'
      · rw [Array.getElem?_eq_none h'] at h; simp at h
    rw [hb.block g hlt]
    exact h
/-- The variables that reading lines reads. -/
structure RdTabs (w : World) : Prop where
  ln : LnTabs w
  mx : ∃ m, w.cell? ⟨1, 0, none⟩ = some (.int .i64 m)
  syn : ∃ tp p, w.var? Tryd.prog "strconv.ErrSyntax" = some #[.iface tp p]
  rng : ∃ tp p, w.var? Tryd.prog "strconv.ErrRange" = some #[.iface tp p]
theorem cell_lt {w : World} {a : Addr} {v : Value} (h : w.cell? a = some v) : a.block < w.heap.size := by
  rcases Nat.lt_or_ge a.block w.heap.size with h' | h'
  · exact h'
  · simp [World.cell?, Array.getElem?_eq_none h'] at h
theorem RdTabs.below {w w' : World} (h : RdTabs w) (hb : Below w.heap.size w w') : RdTabs w' :=
  ⟨h.ln.below hb, h.mx.imp fun m hm => (hb.cell (cell_lt hm)).trans hm, h.syn.imp fun _ ⟨p, hp⟩ => ⟨p, var_below hp hb⟩, h.rng.imp fun _ ⟨p, hp⟩ => ⟨p, var_below hp hb⟩⟩
theorem size_mk (s : List UInt8) : (⟨s.toArray⟩ : ByteArray).size = s.length := by simp [ByteArray.size]
theorem atoi_ok (w : World) (ht : RdTabs w) (s : List UInt8) (hs : s.length ≤ 2000000) :
    Calls Tryd.prog 31 #[.string ⟨s.toArray⟩] w fun e w' => ∃ err, e = .returned (.tuple #[.int .i64 (atoiV s), err]) ∧ Below w.heap.size w w' := by
  have hz := size_mk s
  cases h : Lib.atoiAll s
  case ok v =>
    refine (Tryd.strconv_Atoi_ok ⟨s.toArray⟩ (by rw [hz]; omega) v h w).mono ?_
    rintro e w' ⟨rfl, hw⟩
    refine ⟨.nilIface, by unfold atoiV; rw [h], ?_⟩
    rcases hw with rfl | ⟨t, rfl⟩
    · exact Below.refl _ _
    · exact Lib.bytesWorld_below _ _ _
  case range =>
    obtain ⟨tp, p, hv⟩ := ht.rng
    refine (Tryd.strconv_Atoi_range_var ⟨s.toArray⟩ (by rw [hz]; omega) h tp p w hv).mono ?_
    rintro e w' ⟨n, rfl, _, _, hb⟩
    exact ⟨_, by unfold atoiV; rw [h], hb⟩
  all_goals
    obtain ⟨tp, p, hv⟩ := ht.syn
    refine (Tryd.strconv_Atoi_bad_var ⟨s.toArray⟩ (by rw [hz]; omega) (fun v e => by rw [show (⟨s.toArray⟩ : ByteArray).data.toList = s from rfl, h] at e; cases e) (fun e => by rw [show (⟨s.toArray⟩ : ByteArray).data.toList = s from rfl, h] at e; cases e) tp p w hv).mono ?_
    rintro e w' ⟨n, rfl, _, _, hb⟩
    exact ⟨_, by unfold atoiV; rw [h], hb⟩
theorem trim_ok (w : World) (s : List UInt8) (hs : s.length ≤ 2000000) :
    Calls Tryd.prog 30 #[.string ⟨s.toArray⟩, .string ⟨#[10]⟩] w fun e w' => e = .returned (.string ⟨(trimN s).toArray⟩) ∧ w' = w := by
  refine (Tryd.strings_TrimSuffix ⟨s.toArray⟩ ⟨#[10]⟩ w (by rw [size_mk]; omega)).mono ?_
  rintro e w' ⟨rfl, rfl⟩
  refine ⟨?_, rfl⟩
  have e1 : Lib.trimSuffix s [10] = trimN s := by
    unfold Lib.trimSuffix Lib.hasSuffix trimN
    rcases List.eq_nil_or_concat s with h | ⟨p, c, h⟩
    · rw [h]; rfl
    · rw [h]
      by_cases hc : c = 10
      · rw [hc, if_pos (by simp), if_pos (by simp)]
        simp
      · rw [if_neg (by
          simp only [List.isSuffixOf_iff_suffix]
          rintro ⟨t, ht⟩
          have h2 := congrArg List.getLast? ht
          simp at h2
          exact hc h2.symm), if_neg (by simpa using hc)]
  rw [← e1]
theorem cut_count (c : UInt8) : ∀ (n : Nat) (s : List UInt8), s.length ≤ n → (Lib.splitK [c] 0 (Lib.count s [c]) s).length = Lib.count s [c] + 1 := by
  intro n
  induction n with
  | zero =>
    intro s hs
    obtain rfl : s = [] := List.eq_nil_of_length_eq_zero (by omega)
    have hi : Lib.index [] [c] = -1 := Lib.index_none fun j _ => by
      rcases Bool.eq_false_or_eq_true (Lib.occAt [] [c] j) with h | h
      · rw [occ_one] at h; simp at h
      · exact h
    rw [Lib.count_miss hi]
    rfl
  | succ n ih =>
    intro s hs
    rcases Lib.index_spec s [c] with ⟨h1, h2⟩ | ⟨i, h1, h2, h3, h4⟩
    · rw [Lib.count_miss h1]
      rfl
    · have hc := (occ_one s c i).1 h3
      obtain ⟨hi, hci⟩ := List.getElem?_eq_some_iff.1 hc
      rw [Lib.count_hit (by simp) h1, Nat.add_comm 1, Lib.splitK, if_neg (by rw [h1]; simp), h1]
      simp only [Int.toNat_natCast, List.length_cons, List.length_nil, Nat.zero_add]
      rw [ih (s.drop (i + 1)) (by rw [List.length_drop]; omega)]
theorem split_ok (w : World) (ht : RdTabs w) (s : List UInt8) (hs : s.length ≤ 2000000) :
    Calls Tryd.prog 29 #[.string ⟨s.toArray⟩, .string ⟨#[32]⟩] w fun e w' =>
      e = .returned (.slice (some ⟨w.heap.size, 0, none⟩) (cutW 32 s).length (cutW 32 s).length) ∧ w' = w.alloc (.cells ((cutW 32 s).map fun l => Value.string ⟨l.toArray⟩).toArray 9) := by
  obtain ⟨m, hm⟩ := ht.mx
  refine (Tryd.strings_Split ⟨s.toArray⟩ ⟨#[32]⟩ m w (by rw [size_mk]; omega) hm (by decide)).mono ?_
  rintro e w' ⟨rfl, rfl⟩
  have h1 : Lib.countB ⟨s.toArray⟩ ⟨#[32]⟩ = Lib.count s [32] := rfl
  have h2 := Lib.splitB_data ⟨#[32]⟩ 0 (Lib.count s [32]) ⟨s.toArray⟩
  have h3 : (⟨#[32]⟩ : ByteArray).data.toList = [32] := rfl
  have h4 : (⟨s.toArray⟩ : ByteArray).data.toList = s := rfl
  rw [h3, h4, split_cut 32 s.length s (Nat.le_refl _)] at h2
  have h5 : (cutW 32 s).length = Lib.count s [32] + 1 := by rw [← split_cut 32 s.length s (Nat.le_refl _)]; exact cut_count 32 s.length s (Nat.le_refl _)
  rw [h1, h5]
  refine ⟨rfl, ?_⟩
  rw [← h2, List.map_map]
  rfl
theorem idx_ok (w : World) (c : UInt8) :
    Calls Tryd.prog 28 #[.string ⟨#[48, 49, 50, 51, 52, 53, 54, 55, 56, 57, 97, 98, 99, 100, 101, 102]⟩, .int .u8 (c.toNat : Int)] w fun e w' => e = .returned (.int .i64 (Lib.indexByte digs c)) ∧ w' = w := by
  refine (Tryd.strings_IndexByte ⟨#[48, 49, 50, 51, 52, 53, 54, 55, 56, 57, 97, 98, 99, 100, 101, 102]⟩ (c.toNat : Int) w).mono ?_
  rintro e w' ⟨rfl, rfl⟩
  have e1 : ((c.toNat : Int)).toNat.toUInt8 = c := by simp
  rw [e1]
  exact ⟨rfl, rfl⟩
theorem idx_lt (c : UInt8) : ∀ l : List UInt8, Lib.indexByte l c < (l.length : Int)
  | [] => by simp [Lib.indexByte]
  | b :: l => by
    have ih := idx_lt c l
    unfold Lib.indexByte
    rw [List.length_cons]
    split
    · omega
    · split <;> omega
theorem idx_range (c : UInt8) : -1 ≤ Lib.indexByte digs c ∧ Lib.indexByte digs c < 16 := ⟨Lib.indexByte_ge _ _, idx_lt c digs⟩
end Go.Proofs.YtjidppcfjkjjoaaDoor
namespace Go.Proofs.YtjidppcfjkjjoaaDoor
open Go.RowKit
set_option linter.unusedVariables false
set_option linter.unusedSimpArgs false

/-- The call returns an act of its own memory. -/
def RetLe (w : World) (a : Le) (e : Ending) (w' : World) : Prop := ∃ D d, e = .returned (.agg #[.int .i64 a.kind, .int .i64 a.session, .int .i64 a.keep, .slice D a.data.length d]) ∧ Bs (From w.heap.size) w' D a.data ∧ Below w.heap.size w w'
/-- .. with its bytes' room. -/
def RetLeC (w : World) (a : Le) (e : Ending) (w' : World) : Prop := ∃ D d, e = .returned (.agg #[.int .i64 a.kind, .int .i64 a.session, .int .i64 a.keep, .slice D a.data.length d]) ∧ Bs (From w.heap.size) w' D a.data ∧ Below w.heap.size w w' ∧ a.data.length ≤ d
theorem owb_cap {B n c : Nat} {w : World} {A : Option Addr} {l : List UInt8} (h : OwB B w (.slice A n c) l) : l.length ≤ c := by
  rcases h.2 with ⟨e, h0⟩ | ⟨g, cap, cur, e, _, _, hcap, _⟩
  · omega
  · injection e with _ _ e
    omega
theorem word_cell {w : World} {g : Nat} {ws : List (List UInt8)} (h : w.heap[g]? = some (.cells (ws.map fun l => Value.string ⟨l.toArray⟩).toArray 9 (0, 0))) {i : Nat} (hi : i < ws.length) : w.cell? ⟨g, i, none⟩ = some (.string ⟨(ws[i]).toArray⟩) := by
  rw [box_cell (cs := ws.map fun l => Value.string ⟨l.toArray⟩) h i]
  simp [hi]
theorem idx_agg (W : World) (cs : Array Value) (k : Nat) (i : Int) (v : Value) (hk : k < 5) (hi : i = k) (hv : cs[k]? = some v) : (Instr.index 52 (.agg cs) (.int .i64 i)).run Tryd.prog W = .ok v W := by
  subst hi
  have u := run_underlying (w := W) (Tryd.underlying52)
  simp [Instr.index, u, asIntOf, hk, part, go_sem, Tryd.isAgg9, hv]
theorem cutW_le {c : UInt8} : ∀ {s x : List UInt8}, x ∈ cutW c s → x.length ≤ s.length
  | [], x, h => by
    simp only [cutW, List.mem_singleton] at h
    rw [h]
    exact Nat.le_refl _
  | y :: l, x, h => by
    unfold cutW at h
    split at h
    · rcases List.mem_cons.1 h with e | e
      · rw [e]; exact Nat.zero_le _
      · have := cutW_le e
        simp only [List.length_cons]
        omega
    · cases hc : cutW c l with
      | nil => exact absurd hc (cutW_ne c l)
      | cons w ws =>
        rw [hc] at h
        rcases List.mem_cons.1 h with e | e
        · have := cutW_le (c := c) (s := l) (x := w) (by rw [hc]; simp)
          rw [e]
          simp only [List.length_cons]
          omega
        · have := cutW_le (c := c) (s := l) (x := x) (by rw [hc]; simp [e])
          simp only [List.length_cons]
          omega
theorem cutW_num (c : UInt8) : ∀ s : List UInt8, (cutW c s).length ≤ s.length + 1
  | [] => by simp [cutW]
  | y :: l => by
    have ih := cutW_num c l
    unfold cutW
    split
    · simp only [List.length_cons]
      omega
    · cases hc : cutW c l with
      | nil => exact absurd hc (cutW_ne c l)
      | cons w ws =>
        rw [hc] at ih
        simp only [List.length_cons] at ih ⊢
        omega
theorem owb_off {B g i : Nat} {w : World} {v : Value} {l : List UInt8} {u : Value} (h : OwB B w v l) (hg : g < B) : OwB B (w.setCell ⟨g, i, none⟩ u) v l :=
  ⟨h.1, h.2.imp id fun ⟨b, cap, cur, hv, hge, hh, rest⟩ => ⟨b, cap, cur, hv, hge, (heap_setCell_other _ _ _ _ (show b ≠ g by omega)).trans hh, rest⟩⟩
def strLen : Value → Nat
  | .string s => s.size
  | _ => 0
theorem kindUp_next (w : List UInt8) (k : Nat) : kindUp w (k + 1) = if 0 < k ∧ wordS k = w then (k : Int) else kindUp w k := rfl
set_option maxRecDepth 100000 in
set_option maxHeartbeats 2000000 in
theorem act_ok (w : World) (hT : RdTabs w) (s : List UInt8) (hs : s.length ≤ 2000000) :
    Calls Tryd.prog 20 #[.string ⟨s.toArray⟩] w (RetLeC w (pS s)) := by
  have hts : (trimN s).length ≤ 2000000 := by
    unfold trimN
    split
    · rw [List.length_dropLast]; omega
    · exact hs
  have hx0 := box_new w #[.int .i64 0, .int .i64 0, .int .i64 0, .slice none 0 0] 34
  have hb0 := (Below.refl w.heap.size w).alloc (Nat.le_refl _) (.cells #[.int .i64 0, .int .i64 0, .int .i64 0, .slice none 0 0] 34)
  have hsz0 : (w.alloc (.cells #[.int .i64 0, .int .i64 0, .int .i64 0, .slice none 0 0] 34)).heap.size = w.heap.size + 1 := by simp
  have HT := Lib.hid hT
  have Hp := Lib.hid (show pS s = actOf (cutW 32 (trimN s)) from rfl)
  clear hT
  go_enter Tryd.func20, Tryd.ntmps20
  go_upto_region 1 with fail
  obtain ⟨w0, hw0e⟩ : ∃ w0, w0 = w.alloc (.cells #[.int .i64 0, .int .i64 0, .int .i64 0, .slice none 0 0] 34) := ⟨_, rfl⟩
  rw [← hw0e] at hx0 hb0 hsz0 ⊢
  obtain ⟨g2, hg2e⟩ : ∃ g2, g2 = w.heap.size := ⟨_, rfl⟩
  have hwg : w.heap.size ≤ g2 := by omega
  have hgw : g2 < w0.heap.size := by omega
  rw [← hg2e] at hx0 ⊢
  have Hx0 := Lib.hid hx0
  have Hb0 := Lib.hid hb0
  clear hw0e hg2e hx0 hb0 hsz0
  go_upto_region 2 with (first
    | (go_at_call 30; (refine (trim_ok _ s hs).mono ?_); rintro e w1 ⟨rfl, hw⟩; rw [hw]; clear hw)
    | (go_at_call 29; (refine (split_ok _ (HT.out.below Hb0.out) (trimN s) hts).mono ?_); rintro e w1 ⟨rfl, rfl⟩))
  obtain ⟨ws, hws⟩ : ∃ ws, ws = cutW 32 (trimN s) := ⟨_, rfl⟩
  have hne : ws ≠ [] := by rw [hws]; exact cutW_ne _ _
  have Hlen2 := Lib.hid (show ∀ x ∈ ws, x.length ≤ 2000000 from fun x hx => Nat.le_trans (cutW_le (c := 32) (hws ▸ hx)) hts)
  have Hwn := Lib.hid (show ws.length ≤ 2000001 by rw [hws]; have := cutW_num 32 (trimN s); omega)
  rw [← hws] at Hp ⊢
  clear hws
  have hx1 := box_new w0 (ws.map fun l => Value.string ⟨l.toArray⟩).toArray 9
  have hb1 := (Below.refl w0.heap.size w0).alloc (Nat.le_refl _) (.cells (ws.map fun l => Value.string ⟨l.toArray⟩).toArray 9)
  have hsz1 : (w0.alloc (.cells (ws.map fun l => Value.string ⟨l.toArray⟩).toArray 9)).heap.size = w0.heap.size + 1 := by simp
  obtain ⟨w1, hw1e⟩ : ∃ w1, w1 = w0.alloc (.cells (ws.map fun l => Value.string ⟨l.toArray⟩).toArray 9) := ⟨_, rfl⟩
  rw [← hw1e] at hx1 hb1 hsz1 ⊢
  obtain ⟨g3, hg3e⟩ : ∃ g3, g3 = w0.heap.size := ⟨_, rfl⟩
  rw [← hg3e] at hx1 hsz1 ⊢
  have hg23 : g2 < g3 := by omega
  have Hx1 := Lib.hid hx1
  have Hb1 := Lib.hid (Hb0.out.trans (hb1.mono (by omega)))
  have Hx01 := Lib.hid ((hb1.block g2 hgw).trans Hx0.out)
  have hx2 := box_new w1 #[.int .i64 0, .int .i64 0, .int .i64 0, .slice none 0 0] 34
  have hb2 := (Below.refl w1.heap.size w1).alloc (Nat.le_refl _) (.cells #[.int .i64 0, .int .i64 0, .int .i64 0, .slice none 0 0] 34)
  have hsz2 : (w1.alloc (.cells #[.int .i64 0, .int .i64 0, .int .i64 0, .slice none 0 0] 34)).heap.size = w1.heap.size + 1 := by simp
  have hz1a : w1.heap.size ≤ g3 + 1 := by omega
  have hz1b : g3 + 1 ≤ w1.heap.size := by omega
  clear hw1e hg3e hx1 hb1 hsz1
  go_upto_region 3 with fail
  obtain ⟨w2, hw2e⟩ : ∃ w2, w2 = w1.alloc (.cells #[.int .i64 0, .int .i64 0, .int .i64 0, .slice none 0 0] 34) := ⟨_, rfl⟩
  rw [← hw2e] at hx2 hb2 hsz2 ⊢
  obtain ⟨g4, hg4e⟩ : ∃ g4, g4 = w1.heap.size := ⟨_, rfl⟩
  rw [← hg4e] at hx2 hsz2 ⊢
  have hg34 : g3 < g4 := by omega
  have hw2s : w2.heap.size = g4 + 1 := by omega
  have Hx2 := Lib.hid hx2
  have Hb2 := Lib.hid (Hb1.out.trans (hb2.mono (by have := Hb1.out.size; omega)))
  have Hx02 := Lib.hid ((hb2.block g2 (by omega)).trans Hx01.out)
  have Hx12 := Lib.hid ((hb2.block g3 (by omega)).trans Hx1.out)
  have hwd := (HT.out.below Hb2.out).ln.words
  have hgl := (HT.out.below Hb2.out).ln.size
  have q0 := hwd 0 (by omega)
  have q1 := hwd 1 (by omega)
  have q2 := hwd 2 (by omega)
  have q3 := hwd 3 (by omega)
  have q4 := hwd 4 (by omega)
  have hg4l : g4 < w2.heap.size := by omega
  clear hw2e hg4e hx2 hb2 hsz2 hwd hw2s
  obtain ⟨w0', r, hwr⟩ : ∃ x r, ws = x :: r := by
    cases ws with
    | nil => exact absurd rfl hne
    | cons x r => exact ⟨x, r, rfl⟩
  go_wp2_with fail
  go_loopw [14] (fun i wr => ∃ k : Nat, k ≤ 5 ∧ i = .int .i64 k ∧ wr.heap[g4]? = some (.cells #[.int .i64 (kindUp w0' k), .int .i64 0, .int .i64 0, .slice none 0 0] 34 (0, 0)) ∧ Below g4 w2 wr) (fun i _ => 5 - (intOf i).toNat)
  case atStart => exact ⟨0, by omega, rfl, Hx2.out, Below.refl _ _⟩
  case round =>
    obtain ⟨k, hk, rfl, hbk, hbel⟩ := hrel
    have Hbk := Lib.hid hbk
    have hgl4 := (Array.getElem?_eq_some_iff.1 hbk).1
    have Hbel := Lib.hid hbel
    have hx12 := (hbel.block g3 hg34).trans Hx12.out
    have hw0c := word_cell hx12 (i := 0) (by rw [hwr]; simp)
    have hw0d : ws[0]'(by rw [hwr]; simp) = w0' := by simp [hwr]
    rw [hw0d] at hw0c
    have hg3l : g3 < wr.heap.size := by omega
    have hlen : 0 < ws.length := by rw [hwr]; simp
    obtain ⟨c0, c1, c2, c3, f0, f1, f2, f3⟩ := box4L hbk
    have Hwr := Lib.hid hwr
    clear hbk hx12 hw0d hwr hbel
    by_cases hlt : k < 5
    · have ix := fun (W : World) (k : Nat) (i : Int) (v : Value) (hk : k < 5) (hi : i = k) (hv : #[Value.string ⟨(wordS 0).toArray⟩, .string ⟨(wordS 1).toArray⟩, .string ⟨(wordS 2).toArray⟩, .string ⟨(wordS 3).toArray⟩, .string ⟨(wordS 4).toArray⟩][k]? = some v) => idx_agg W _ k i v hk hi hv
      have Ix := Lib.hid ix
      clear ix
      rcases (by omega : k = 0 ∨ k = 1 ∨ k = 2 ∨ k = 3 ∨ k = 4) with e | e | e | e | e <;> subst e
      · have i0 := fun W => Ix.out W 0 0 _ (by omega) rfl rfl
        go_wp2
        go_roundw
        case rel => exact ⟨1, by omega, by go_num, Hbk.out, Hbel.out⟩
        case measure => simp [intOf]
      · by_cases hw : wordS 1 = w0'
        · have Hku := Lib.hid (show kindUp w0' (1 + 1) = 1 by rw [kindUp_next, if_pos ⟨by omega, hw⟩]; rfl)
          have bw : (wordS 1 == w0') = true := by simpa using hw
          clear hw
          have i0 := fun W => Ix.out W 1 1 _ (by omega) rfl rfl
          go_wp2
          go_roundw
          case rel => exact ⟨1 + 1, by omega, by go_num, by rw [heap_setCell_same _ _ _ _ _ _ Hbk.out, Hku.out]; rfl, Hbel.out.setCell (p := ⟨g4, 0, none⟩) (Nat.le_refl _) _⟩
          case measure => simp [intOf]
        · have Hku := Lib.hid (show kindUp w0' (1 + 1) = kindUp w0' 1 by rw [kindUp_next, if_neg (fun h => hw h.2)])
          have bw : (wordS 1 == w0') = false := by simpa using hw
          clear hw
          have i0 := fun W => Ix.out W 1 1 _ (by omega) rfl rfl
          go_wp2
          go_roundw
          case rel => exact ⟨1 + 1, by omega, by go_num, by rw [Hku.out]; exact Hbk.out, Hbel.out⟩
          case measure => simp [intOf]
      · by_cases hw : wordS 2 = w0'
        · have Hku := Lib.hid (show kindUp w0' (2 + 1) = 2 by rw [kindUp_next, if_pos ⟨by omega, hw⟩]; rfl)
          have bw : (wordS 2 == w0') = true := by simpa using hw
          clear hw
          have i0 := fun W => Ix.out W 2 2 _ (by omega) rfl rfl
          go_wp2
          go_roundw
          case rel => exact ⟨2 + 1, by omega, by go_num, by rw [heap_setCell_same _ _ _ _ _ _ Hbk.out, Hku.out]; rfl, Hbel.out.setCell (p := ⟨g4, 0, none⟩) (Nat.le_refl _) _⟩
          case measure => simp [intOf]
        · have Hku := Lib.hid (show kindUp w0' (2 + 1) = kindUp w0' 2 by rw [kindUp_next, if_neg (fun h => hw h.2)])
          have bw : (wordS 2 == w0') = false := by simpa using hw
          clear hw
          have i0 := fun W => Ix.out W 2 2 _ (by omega) rfl rfl
          go_wp2
          go_roundw
          case rel => exact ⟨2 + 1, by omega, by go_num, by rw [Hku.out]; exact Hbk.out, Hbel.out⟩
          case measure => simp [intOf]
      · by_cases hw : wordS 3 = w0'
        · have Hku := Lib.hid (show kindUp w0' (3 + 1) = 3 by rw [kindUp_next, if_pos ⟨by omega, hw⟩]; rfl)
          have bw : (wordS 3 == w0') = true := by simpa using hw
          clear hw
          have i0 := fun W => Ix.out W 3 3 _ (by omega) rfl rfl
          go_wp2
          go_roundw
          case rel => exact ⟨3 + 1, by omega, by go_num, by rw [heap_setCell_same _ _ _ _ _ _ Hbk.out, Hku.out]; rfl, Hbel.out.setCell (p := ⟨g4, 0, none⟩) (Nat.le_refl _) _⟩
          case measure => simp [intOf]
        · have Hku := Lib.hid (show kindUp w0' (3 + 1) = kindUp w0' 3 by rw [kindUp_next, if_neg (fun h => hw h.2)])
          have bw : (wordS 3 == w0') = false := by simpa using hw
          clear hw
          have i0 := fun W => Ix.out W 3 3 _ (by omega) rfl rfl
          go_wp2
          go_roundw
          case rel => exact ⟨3 + 1, by omega, by go_num, by rw [Hku.out]; exact Hbk.out, Hbel.out⟩
          case measure => simp [intOf]
      · by_cases hw : wordS 4 = w0'
        · have Hku := Lib.hid (show kindUp w0' (4 + 1) = 4 by rw [kindUp_next, if_pos ⟨by omega, hw⟩]; rfl)
          have bw : (wordS 4 == w0') = true := by simpa using hw
          clear hw
          have i0 := fun W => Ix.out W 4 4 _ (by omega) rfl rfl
          go_wp2
          go_roundw
          case rel => exact ⟨4 + 1, by omega, by go_num, by rw [heap_setCell_same _ _ _ _ _ _ Hbk.out, Hku.out]; rfl, Hbel.out.setCell (p := ⟨g4, 0, none⟩) (Nat.le_refl _) _⟩
          case measure => simp [intOf]
        · have Hku := Lib.hid (show kindUp w0' (4 + 1) = kindUp w0' 4 by rw [kindUp_next, if_neg (fun h => hw h.2)])
          have bw : (wordS 4 == w0') = false := by simpa using hw
          clear hw
          have i0 := fun W => Ix.out W 4 4 _ (by omega) rfl rfl
          go_wp2
          go_roundw
          case rel => exact ⟨4 + 1, by omega, by go_num, by rw [Hku.out]; exact Hbk.out, Hbel.out⟩
          case measure => simp [intOf]
    · obtain rfl : k = 5 := by omega
      have hB24 : Below g4 w2 wr := Hbel.out
      have Hx2r := Lib.hid ((hB24.block g2 (by omega)).trans Hx02.out)
      have Hxwr := Lib.hid ((hB24.block g3 hg34).trans Hx12.out)
      have Hwl := Lib.hid (Hb2.out.trans (hB24.mono (by have := Hb2.out.size; have := Hb1.out.size; omega)))
      have Hbk5 := Lib.hid (show wr.heap[g4]? = some (.cells #[.int .i64 (kindOf w0'), .int .i64 0, .int .i64 0, .slice none 0 0] 34 (0, 0)) from Hbk.out)
      have hwg4 : w.heap.size ≤ g4 := by omega
      clear c0 c1 c2 c3 f0 f1 f2 f3 Hbk
      obtain ⟨c0, c1, c2, c3, f0, f1, f2, f3⟩ := box4L Hbk5.out
      obtain ⟨d0, d1, d2, d3, e0, e1, e2, e3⟩ := box4L Hx2r.out
      have hg2r : g2 < wr.heap.size := by omega
      have hne24 : g2 ≠ g4 := by omega
      have hne42 : g4 ≠ g2 := by omega
      cases r with
      | nil =>
        have Hr := Lib.hid (show pS s = ⟨kindOf w0', 0, 0, []⟩ by rw [Hp.out, Hwr.out]; rfl)
        have hl1 : ws.length = 1 := by rw [Hwr.out]; rfl
        rw [hl1]
        generalize kindOf w0' = K at *
        clear hl1 hlen
        go_wp2
        refine bodyPost_ret (v := .agg #[.int .i64 K, .int .i64 0, .int .i64 0, .slice none 0 0]) (by simp [results, Tryd.results20, go_sem, d0, d1, d2, d3, hg2r]) rfl ?_
        rw [Hr.out]
        exact ⟨none, 0, rfl, SL.nil, ((((Hwl.out).setCell (p := ⟨g2, 0, none⟩) hwg _).setCell (p := ⟨g2, 1, none⟩) hwg _).setCell (p := ⟨g2, 2, none⟩) hwg _).setCell (p := ⟨g2, 3, none⟩) hwg _, Nat.zero_le _⟩
      | cons v r2 =>
        have hl2 : 2 ≤ ws.length := by rw [Hwr.out]; simp
        have hv1 := word_cell Hxwr.out (i := 1) (by omega)
        have hv2 : ws[1]'(by omega) = v := by simp [Hwr.out]
        rw [hv2] at hv1
        have Hvl := Lib.hid (Hlen2.out v (by rw [Hwr.out]; simp))
        have b2 : decide ((ws.length : Int) < 2) = false := by simp; omega
        have hi1 : (1 : Int) < (ws.length : Int) := by omega
        have hlst : ws.getLast hne = (v :: r2).getLast (by simp) := by simp [Hwr.out]
        have Hlst := Lib.hid hlst
        have Hr := Lib.hid (show pS s = if kindOf w0' = 3 then ⟨3, 0, atoiV v, []⟩ else if kindOf w0' = 1 then ⟨1, atoiV v, 0, unhexP ((v :: r2).getLast (by simp))⟩ else ⟨kindOf w0', 0, 0, []⟩ by rw [Hp.out, Hwr.out]; rfl)
        clear hv2 hlst
        generalize kindOf w0' = K at *
        go_upto_region 12 with (go_at_call 31; (refine (atoi_ok _ (HT.out.below Hwl.out) v Hvl.out).mono ?_); rintro e w4 ⟨err, rfl, hv4⟩; have hz4 := hv4.size; have hbx4 := (hv4.block g4 hgl4).trans Hbk5.out; have hbr4 := (hv4.block g2 hg2r).trans Hx2r.out; have hbw4 := (hv4.block g3 hg3l).trans Hxwr.out; have Hw4 := Lib.hid (Hwl.out.trans (hv4.mono (by have := Hwl.out.size; omega))); clear c0 c1 c2 c3 f0 f1 f2 f3 d0 d1 d2 d3 e0 e1 e2 e3; obtain ⟨c0, c1, c2, c3, f0, f1, f2, f3⟩ := box4L hbx4; obtain ⟨d0, d1, d2, d3, e0, e1, e2, e3⟩ := box4L hbr4; have hg24 : g2 < w4.heap.size := (by omega); have hg44 : g4 < w4.heap.size := (by omega); have hg34' : g3 < w4.heap.size := (by omega); have Hbx4 := Lib.hid hbx4; have Hbr4 := Lib.hid hbr4; have Hbw4 := Lib.hid hbw4; clear hbx4 hbr4 hbw4 hv4)
        generalize atoiV v = n at *
        by_cases h3 : K = 3
        · have hr := Hr.out
          rw [if_pos h3] at hr
          have Hr3 := Lib.hid hr
          subst h3
          clear hr
          go_wp2
          refine bodyPost_ret (v := .agg #[.int .i64 3, .int .i64 0, .int .i64 n, .slice none 0 0]) (by simp [results, Tryd.results20, go_sem, d0, d1, d2, d3, hg24]) rfl ?_
          rw [Hr3.out]
          exact ⟨none, 0, rfl, SL.nil, ((((Hw4.out.setCell (p := ⟨g4, 2, none⟩) hwg4 _).setCell (p := ⟨g2, 0, none⟩) hwg _).setCell (p := ⟨g2, 1, none⟩) hwg _).setCell (p := ⟨g2, 2, none⟩) hwg _).setCell (p := ⟨g2, 3, none⟩) hwg _, Nat.zero_le _⟩
        · by_cases h1 : K = 1
          · have hr := Hr.out
            rw [if_neg h3, if_pos h1] at hr
            have Hr1 := Lib.hid hr
            subst h1
            clear hr h3
            obtain ⟨m, hm⟩ : ∃ m, ws.length = m + 1 := ⟨ws.length - 1, by omega⟩
            have hlc := word_cell Hbw4.out (i := m) (by omega)
            have hle : ws[m]'(by omega) = (v :: r2).getLast (by simp) := by
              rw [← Hlst.out, List.getLast_eq_getElem]
              congr 1
              omega
            rw [hle] at hlc
            have Hll := Lib.hid (show ((v :: r2).getLast (by simp)).length ≤ 2000000 from by rw [← Hlst.out]; exact Hlen2.out _ (List.getLast_mem hne))
            clear Hlst hle
            generalize (v :: r2).getLast (by simp) = h0 at *
            have hmw : wrap64 (m : Int) = (m : Int) := by have := Hwn.out; unfold wrap64; omega
            rw [hm]
            clear hm b2 hi1 hl2 hlen hv1
            have hW : (w4.setCell ⟨g4, 1, none⟩ (.int .i64 n)).heap[g4]? = some (.cells #[.int .i64 1, .int .i64 n, .int .i64 0, .slice none 0 0] 34 (0, 0)) := by
              rw [heap_setCell_same _ _ _ _ _ _ Hbx4.out]
              rfl
            have hW2 : (w4.setCell ⟨g4, 1, none⟩ (.int .i64 n)).heap[g2]? = some (.cells #[.int .i64 0, .int .i64 0, .int .i64 0, .slice none 0 0] 34 (0, 0)) := (heap_setCell_other _ _ _ _ (show g2 ≠ g4 from hne24)).trans Hbr4.out
            have hWl : (w4.setCell ⟨g4, 1, none⟩ (.int .i64 n)).cell? ⟨g3, m, none⟩ = some (.string ⟨h0.toArray⟩) := by
              rw [← hlc]
              exact World.cell?_of_block (w := w4) (heap_setCell_other _ _ _ _ (show g3 ≠ g4 by omega))
            have hWb : Below w.heap.size w (w4.setCell ⟨g4, 1, none⟩ (.int .i64 n)) := Hw4.out.setCell (p := ⟨g4, 1, none⟩) hwg4 _
            have hWz : (w4.setCell ⟨g4, 1, none⟩ (.int .i64 n)).heap.size = w4.heap.size := by simp [World.setCell]
            go_upto_region 17 with fail
            obtain ⟨w5, hw5e⟩ : ∃ w5, w5 = w4.setCell ⟨g4, 1, none⟩ (.int .i64 n) := ⟨_, rfl⟩
            rw [← hw5e] at hW hW2 hWl hWb hWz ⊢
            have hg45 : g4 < w5.heap.size := by omega
            have hg35 : g3 < w5.heap.size := by omega
            have hg25 : g2 < w5.heap.size := by omega
            have Hbx5 := Lib.hid hW
            have Hbr5 := Lib.hid hW2
            have Hw5 := Lib.hid hWb
            clear hw5e hW hW2 hWb hWz hlc c0 c1 c2 c3 f0 f1 f2 f3 d0 d1 d2 d3 e0 e1 e2 e3
            go_wp2_with fail
            go_loopw [9] (fun hv wr => ∃ (S : ByteArray) (acc : List UInt8) (v : Value), hv = .string S ∧ wr.heap[g4]? = some (.cells #[.int .i64 1, .int .i64 n, .int .i64 0, v] 34 (0, 0)) ∧ OwB w5.heap.size wr v acc ∧ unhexP h0 = acc ++ unhexP S.data.toList ∧ acc.length + S.size ≤ 2000000 ∧ Below g4 w5 wr) (fun hv _ => strLen hv)
            case atStart => exact ⟨⟨h0.toArray⟩, [], _, rfl, Hbx5.out, World.ownsRow_nil _ _ _ _, rfl, by have := Hll.out; rw [size_mk]; simpa using this, Below.refl _ _⟩
            case round =>
              obtain ⟨S, acc, v, rfl, hbx, ho, hun, hlen, hb6⟩ := hrel
              have Hbx := Lib.hid hbx
              have Ho := Lib.hid ho
              have Hun := Lib.hid hun
              have Hb6 := Lib.hid hb6
              have hz6 := hb6.size
              have hg46 : g4 < wr.heap.size := by omega
              have hvb : v.ownBlock ≠ some g4 := fun e => by have := (ho.lt g4 e).1; omega
              obtain ⟨c0, c1, c2, c3, f0, f1, f2, f3⟩ := box4L hbx
              clear hbx ho hun hb6
              by_cases hl : 1 < S.size
              · have b1 : decide ((1 : Int) < (S.size : Int)) = true := by simp; omega
                have hp0 : 0 < S.size := by omega
                have hl0 : (0 : Int) < (S.size : Int) := by omega
                have hl1 : (1 : Int) < (S.size : Int) := by omega
                obtain ⟨a0, a1, r', hS⟩ : ∃ a0 a1 r', S.data.toList = a0 :: a1 :: r' := by
                  have h2 : 1 < S.data.toList.length := by rw [← Lib.size_eq]; exact hl
                  match hx : S.data.toList, h2 with
                  | a0 :: a1 :: r', _ => exact ⟨a0, a1, r', rfl⟩
                have hS0 : ∀ h, (S[0]'h) = a0 := fun h => by
                  have h2 : S.data.toList[0]? = some a0 := by rw [hS]; rfl
                  rw [Array.getElem?_toList] at h2
                  obtain ⟨_, e⟩ := Array.getElem?_eq_some_iff.1 h2
                  exact e
                have hS1 : ∀ h, (S[1]'h) = a1 := fun h => by
                  have h2 : S.data.toList[1]? = some a1 := by rw [hS]; rfl
                  rw [Array.getElem?_toList] at h2
                  obtain ⟨_, e⟩ := Array.getElem?_eq_some_iff.1 h2
                  exact e
                have HS := Lib.hid hS
                have hE := hexB_val a0 a1
                clear hS
                go_wp2_with fail
                go_region_law (first
                  | (go_simp; go_at_call 28; (with_reducible refine (idx_ok _ a0).mono ?_); rintro e w7 ⟨rfl, rfl⟩)
                  | (go_simp; go_at_call 28; (with_reducible refine (idx_ok _ a1).mono ?_); rintro e w7 ⟨rfl, rfl⟩)
                  | (refine owb_step _ rfl (.tmp 63) (.tmp 74) rfl w5.heap.size v acc ?hs ?own wr.heap.size 1 [hexB a0 a1] ?hx ?hsrc ?hl ?hb ?_; (case hsrc => exact box_new _ _ _); (case hs => (simp [Act.eval, Act.put])); (case own => exact owb_below Ho.out ((Below.refl _ _).drew.alloc (by simp) _)); (case hx => (simp [Act.eval, Act.put])); (case hl => (simp; omega)); (case hb => (simp; omega)); intro v8 w8 ho8 hv8; obtain ⟨A8, c8, e8, _⟩ := owb_bs ho8; rw [List.length_append, List.length_singleton] at e8; subst e8; have Ho8 := Lib.hid ho8; have hz8 := hv8.size; simp at hz8; have hg48 : g4 < w8.heap.size := (by omega); have Hbx8 := Lib.hid ((hv8.block g4 hg45).trans ((heap_alloc_old _ _ hg46).trans Hbx.out)); obtain ⟨m0, m1, m2, m3, n0, n1, n2, n3⟩ := box4L Hbx8.out; have hw8 : Below g4 w5 w8 := ((Hb6.out.drew.alloc (by simp; omega) _)).trans (hv8.mono (by omega)); clear ho8 hv8))
                all_goals
                  have hW8 := heap_setCell_same _ _ 3 _ _ (.slice A8 (acc.length + 1) c8) Hbx8.out
                  have ho9 : OwB w5.heap.size (w8.setCell ⟨g4, 3, none⟩ (.slice A8 (acc.length + 1) c8)) (.slice A8 (acc.length + 1) c8) (acc ++ [hexB a0 a1]) := owb_off Ho8.out hg45
                  go_wp2
                  go_roundw
                  case rel => exact ⟨S.extract 2 S.size, acc ++ [hexB a0 a1], .slice A8 (acc.length + 1) c8, by first | rfl | simp, hW8, ho9, by rw [Hun.out, HS.out, unhexP, Lib.extract_to_end, HS.out]; simp, by rw [ByteArray.size_extract]; simp; omega, hw8.setCell (p := ⟨g4, 3, none⟩) (Nat.le_refl _) _⟩
                  case measure => simp [strLen, ByteArray.size_extract]; omega
              · have b1 : decide ((1 : Int) < (S.size : Int)) = false := by simp; omega
                have hS : unhexP S.data.toList = [] := by
                  have h2 : S.data.toList.length ≤ 1 := by rw [← Lib.size_eq]; omega
                  match hx : S.data.toList, h2 with
                  | [], _ => rfl
                  | [a0], _ => rfl
                have hun := Hun.out
                rw [hS, List.append_nil] at hun
                have Hacc := Lib.hid hun
                have Hown := Lib.hid Ho.out
                obtain ⟨A8, c8, rfl, _⟩ := owb_bs Ho.out
                have Hcap8 := Lib.hid (owb_cap Ho.out)
                have Hs8 := Lib.hid (SL.bof_own Hown.out).2
                have hbr := (Hb6.out.block g2 (by omega)).trans Hbr5.out
                obtain ⟨d0, d1, d2, d3, e0, e1, e2, e3⟩ := box4L hbr
                have hg26 : g2 < wr.heap.size := by omega
                have hn2 : ¬ From w5.heap.size g2 := fun h => by have h' : w5.heap.size ≤ g2 := h; omega
                have hlow : w.heap.size ≤ w5.heap.size := by have := Hw5.out.size; omega
                clear hun hS hbr hl
                go_wp2
                refine bodyPost_ret (v := .agg #[.int .i64 1, .int .i64 n, .int .i64 0, .slice A8 acc.length c8]) (by simp [results, Tryd.results20, go_sem, d0, d1, d2, d3, hg26]) rfl ?_
                rw [Hr1.out, Hacc.out]
                exact ⟨A8, c8, rfl, (Hs8.out.bsame (((((Same.refl _ _).setCell (p := ⟨g2, 0, none⟩) hn2 _).setCell (p := ⟨g2, 1, none⟩) hn2 _).setCell (p := ⟨g2, 2, none⟩) hn2 _).setCell (p := ⟨g2, 3, none⟩) hn2 _)).blo hlow, ((((Hw5.out.trans (Hb6.out.mono hwg4)).setCell (p := ⟨g2, 0, none⟩) hwg _).setCell (p := ⟨g2, 1, none⟩) hwg _).setCell (p := ⟨g2, 2, none⟩) hwg _).setCell (p := ⟨g2, 3, none⟩) hwg _, Hcap8.out⟩
          · have hr := Hr.out
            rw [if_neg h3, if_neg h1] at hr
            have Hr0 := Lib.hid hr
            have b3 : (K == 3) = false := by simpa using h3
            have b1 : (K == 1) = false := by simpa using h1
            clear hr h3 h1
            go_wp2
            refine bodyPost_ret (v := .agg #[.int .i64 K, .int .i64 0, .int .i64 0, .slice none 0 0]) (by simp [results, Tryd.results20, go_sem, d0, d1, d2, d3, hg24]) rfl ?_
            rw [Hr0.out]
            exact ⟨none, 0, rfl, SL.nil, ((((Hw4.out).setCell (p := ⟨g2, 0, none⟩) hwg _).setCell (p := ⟨g2, 1, none⟩) hwg _).setCell (p := ⟨g2, 2, none⟩) hwg _).setCell (p := ⟨g2, 3, none⟩) hwg _, Nat.zero_le _⟩
end Go.Proofs.YtjidppcfjkjjoaaDoor
namespace Go.Proofs.YtjidppcfjkjjoaaDoor
open Go.RowKit
set_option linter.unusedVariables false
set_option linter.unusedSimpArgs false

/-- A cell that holds a text. -/
def StrR (_ : Nat → Prop) (_ : World) (cs : List Value) (l : List UInt8) : Prop := ∃ b : ByteArray, cs = [.string b] ∧ b.data.toList = l
theorem strR_stays : Stays StrR := ⟨fun _ _ _ _ _ _ h => h, fun _ _ _ _ _ _ h => h⟩
theorem info_strg : (Tryd.prog.info? 9).map (fun i => (i.zero, i.size, i.bytes)) = some (some (.string ⟨#[]⟩), 1, 16) := by kernel_rfl
theorem byte_atL {S : ByteArray} {j : Nat} {c : UInt8} (h : S.data.toList[j]? = some c) : ∀ q, (S[j]'q) = c := fun _ => by
  rw [Array.getElem?_toList] at h
  obtain ⟨_, e⟩ := Array.getElem?_eq_some_iff.1 h
  exact e
theorem cut_at {s : List UInt8} {f j : Nat} (hf : f ≤ j) (hj : s[j]? = some 32) (hn : (32 : UInt8) ∉ (s.drop f).take (j - f)) : cutW 32 (s.drop f) = (s.drop f).take (j - f) :: cutW 32 (s.drop (j + 1)) := by
  obtain ⟨hl, hc⟩ := List.getElem?_eq_some_iff.1 hj
  have e : s.drop f = (s.drop f).take (j - f) ++ 32 :: s.drop (j + 1) := by
    conv => lhs; rw [← List.take_append_drop (j - f) (s.drop f)]
    rw [List.drop_drop, show f + (j - f) = j by omega, List.drop_eq_getElem_cons hl, hc]
  conv => lhs; rw [e]
  rw [cutW_app hn]
theorem take_more {s : List UInt8} {f j : Nat} {c : UInt8} (hf : f ≤ j) (hj : s[j]? = some c) : (s.drop f).take (j + 1 - f) = (s.drop f).take (j - f) ++ [c] := by
  obtain ⟨hl, hc⟩ := List.getElem?_eq_some_iff.1 hj
  rw [show j + 1 - f = (j - f) + 1 by omega, take_snoc (s.drop f) (j - f) (by rw [List.length_drop]; omega)]
  simp only [List.getElem_drop, show f + (j - f) = j by omega, hc]
theorem cutW_len (c : UInt8) : ∀ l, (cutW c l).length ≤ l.length + 1
  | [] => by simp [cutW]
  | x :: l => by
    have h := cutW_len c l
    have hn := cutW_ne c l
    simp only [cutW]
    split
    · simp; omega
    · cases e : cutW c l with
      | nil => exact absurd e hn
      | cons w ws => rw [e] at h; simp at h ⊢; omega
/-- The call returns texts in a row. -/
def RetStrs (w : World) (l : List (List UInt8)) (e : Ending) (w' : World) : Prop := ∃ A c, e = .returned (.slice A l.length c) ∧ SL 1 StrR (From w.heap.size) w' A l ∧ Below w.heap.size w w'
set_option maxRecDepth 100000 in
set_option maxHeartbeats 2000000 in
theorem wordsOf_ok (w : World) (S : ByteArray) (hs : S.size ≤ 2000000) :
    Calls Tryd.prog 32 #[.string S] w (RetStrs w (cutW 32 S.data.toList)) := by
  obtain ⟨i0, hi0, hz0, hz1, hz2⟩ := info_parts info_strg
  have hS := Lib.size_eq S
  obtain ⟨s, hse⟩ : ∃ s, s = S.data.toList := ⟨_, rfl⟩
  rw [← hse] at hS ⊢
  have Hse := Lib.hid hse
  have HS := Lib.hid hS
  clear hse hS
  go_enter Tryd.func32, Tryd.ntmps32
  go_wp2
  go_loopw [3, 4, 5] (fun v fr i wr => ∃ (j f : Nat) (ws : List (List UInt8)), i = .int .i64 j ∧ fr = .int .i64 f ∧ ws.length ≤ f ∧ Own 1 StrR (From w.heap.size) wr w.heap.size 9 v ws ∧ Below w.heap.size w wr ∧ ((j ≤ S.size ∧ f ≤ j ∧ cutW 32 s = ws ++ cutW 32 (s.drop f) ∧ (32 : UInt8) ∉ (s.drop f).take (j - f)) ∨ (j = S.size + 1 ∧ f = S.size + 1 ∧ ws = cutW 32 s))) (fun _ _ i _ => S.size + 1 - (intOf i).toNat)
  case atStart => exact ⟨0, 0, [], rfl, rfl, Nat.le_refl _, Own.nil _ _ _, Below.refl _ _, .inl ⟨Nat.zero_le _, Nat.le_refl _, rfl, by simp⟩⟩
  case round =>
    obtain ⟨j, f, ws, rfl, rfl, hwf, hown, hbel, hst⟩ := hrel
    have Hown := Lib.hid hown
    have Hbel := Lib.hid hbel
    have hbz := hbel.size
    clear hown hbel
    rcases hst with ⟨hj, hf, hcut, hno⟩ | ⟨rfl, rfl, hws⟩
    · have Hcut := Lib.hid hcut
      have Hno := Lib.hid hno
      clear hcut hno
      have b1 : decide ((j : Int) ≤ (S.size : Int)) = true := by simp; omega
      have hf0 : (0 : Int) ≤ (f : Int) := by omega
      have hfj : (f : Int) ≤ (j : Int) := by omega
      have hjS : (j : Int) ≤ (S.size : Int) := by omega
      have hj0 : (0 : Int) ≤ (j : Int) := by omega
      have hext : (S.extract f j).data.toList = (s.drop f).take (j - f) := by rw [Lib.extract_data, Hse.out]
      have Hext := Lib.hid hext
      have HL := Lib.hid (show ws.length + 1 ≤ maxLen ∧ (ws.length + 1) * 16 ≤ 140737488355328 from ⟨by simp only [maxLen]; omega, by omega⟩)
      clear hext
      by_cases he : j = S.size
      · have b2 : ((j : Int) == (S.size : Int)) = true := by simp [he]
        have Hlast := Lib.hid (show ws ++ [(s.drop f).take (j - f)] = cutW 32 s from by
          have e1 : (s.drop f).take (j - f) = s.drop f := List.take_of_length_le (by rw [List.length_drop, ← HS.out]; omega)
          have h2 := Hno.out
          rw [e1] at h2 ⊢
          rw [Hcut.out, cutW_none h2])
        subst he
        go_wp2_with (at_builtin; refine wpl_snoc strR_stays (S := From w.heap.size) _ rfl _ _ _ rfl w.heap.size 9 i0 _ 1 16 Tryd.underlying59 hi0 hz0 hz1 hz2 rfl (by decide) _ ws rfl ?hown _ _ [.string (S.extract f S.size)] rfl rfl (new_src _ _ [.string (S.extract f S.size)] _ (by simp)) (by simp [Value.oneCell']) ?hm ?hby ?hba ((s.drop f).take (S.size - f)) ?hd ?_; (case hown => exact Own.below strR_stays Hown.out ((Below.refl _ _).alloc (Nat.le_refl _) _)); (case hm => exact HL.out.1); (case hby => exact HL.out.2); (case hba => (simp; omega)); (case hd => exact ⟨_, rfl, Hext.out⟩); intro v1 w2 hown2 hbw2)
        all_goals (rw [Hlast.out] at hown2; have Hbel2 := Lib.hid ((Hbel.out.alloc hbz _).trans hbw2))
        case' roundEnd => exact ⟨⟨S.size + 1, S.size + 1, _, rfl, rfl, by have h9 := cutW_len 32 s; rw [← HS.out] at h9; omega, hown2, Hbel2.out, .inr ⟨rfl, rfl, rfl⟩⟩, by simp [intOf]⟩
      · have b2 : ((j : Int) == (S.size : Int)) = false := by simp; omega
        have hjl : j < s.length := by rw [← HS.out]; omega
        obtain ⟨c, hc⟩ : ∃ c, s[j]? = some c := ⟨_, List.getElem?_eq_getElem hjl⟩
        have g1 : (j : Int) < (S.size : Int) := by omega
        have hat : ∀ q, (S[j]'q) = c := byte_atL (by rw [← Hse.out]; exact hc)
        have Hc := Lib.hid hc
        clear hc
        by_cases hb : c = 32
        · subst hb
          have Hcut2 := Lib.hid (show cutW 32 s = (ws ++ [(s.drop f).take (j - f)]) ++ cutW 32 (s.drop (j + 1)) from by rw [Hcut.out, cut_at hf Hc.out Hno.out]; simp)
          go_wp2_with (at_builtin; refine wpl_snoc strR_stays (S := From w.heap.size) _ rfl _ _ _ rfl w.heap.size 9 i0 _ 1 16 Tryd.underlying59 hi0 hz0 hz1 hz2 rfl (by decide) _ ws rfl ?hown _ _ [.string (S.extract f j)] rfl rfl (new_src _ _ [.string (S.extract f j)] _ (by simp)) (by simp [Value.oneCell']) ?hm ?hby ?hba ((s.drop f).take (j - f)) ?hd ?_; (case hown => exact Own.below strR_stays Hown.out ((Below.refl _ _).alloc (Nat.le_refl _) _)); (case hm => exact HL.out.1); (case hby => exact HL.out.2); (case hba => (simp; omega)); (case hd => exact ⟨_, rfl, Hext.out⟩); intro v1 w2 hown2 hbw2)
          all_goals have Hbel2 := Lib.hid ((Hbel.out.alloc hbz _).trans hbw2)
          case' roundEnd => exact ⟨⟨j + 1, j + 1, _, rfl, rfl, by simp; omega, hown2, Hbel2.out, .inl ⟨by omega, Nat.le_refl _, Hcut2.out, by simp⟩⟩, by simp [intOf]; omega⟩
        · have Hno2 := Lib.hid (show (32 : UInt8) ∉ (s.drop f).take (j + 1 - f) from by rw [take_more hf Hc.out]; intro h9; rcases List.mem_append.1 h9 with h9 | h9; exact Hno.out h9; exact hb (List.mem_singleton.1 h9).symm)
          have b4 : ((c.toNat : Int) == 32) = false := by
            rw [beq_eq_false_iff_ne]; intro h9; exact hb (UInt8.toNat.inj (by show c.toNat = 32; omega))
          go_wp2
          case' roundEnd => exact ⟨⟨j + 1, f, ws, rfl, rfl, hwf, Hown.out, Hbel.out, .inl ⟨by omega, by omega, Hcut.out, Hno2.out⟩⟩, by simp [intOf]; omega⟩
    · have Hws := Lib.hid hws
      clear hws
      have b1 : decide (((S.size + 1 : Nat) : Int) ≤ (S.size : Int)) = false := by simp; omega
      obtain ⟨A, c, rfl, hsl⟩ := Hown.out.read strR_stays
      rw [Hws.out] at hsl
      go_wp2
      go_ret
      exact ⟨A, c, by rw [Hws.out]; rfl, hsl, Hbel.out⟩
/-- hexV by a byte's number. -/
def hexN (n : Nat) : Int := if 48 ≤ n ∧ n ≤ 57 then (n : Int) - 48 else if 97 ≤ n ∧ n ≤ 102 then (n : Int) - 97 + 10 else -1
set_option maxRecDepth 100000 in
set_option maxHeartbeats 1000000 in
theorem hexNum_ok (w : World) (n : Nat) (h8 : n < 256) : Calls Tryd.prog 34 #[.int .u8 (n : Int)] w (RetV w (.int .i64 (hexN n))) := by
  by_cases h1 : 48 ≤ n ∧ n ≤ 57
  · have e : hexN n = (n : Int) - 48 := by unfold hexN; rw [if_pos h1]
    rw [e]
    clear e
    obtain ⟨g1, g2⟩ := h1
    have b1 : decide ((48 : Int) ≤ (n : Int)) = true := by simp; omega
    have b2 : decide ((n : Int) ≤ 57) = true := by simp; omega
    go_enter Tryd.func34, Tryd.ntmps34
    go_wp2
    go_ret
    exact ⟨rfl, Below.refl _ _⟩
  · have b0 : (decide ((48 : Int) ≤ (n : Int)) && decide ((n : Int) ≤ 57)) = false := by simp; omega
    by_cases h2 : 97 ≤ n ∧ n ≤ 102
    · have e : hexN n = (n : Int) - 97 + 10 := by unfold hexN; rw [if_neg h1, if_pos h2]
      rw [e]
      obtain ⟨g1, g2⟩ := h2
      have b1 : decide ((48 : Int) ≤ (n : Int)) = true := by simp; omega
      have b2 : decide ((n : Int) ≤ 57) = false := by simp; omega
      have b3 : decide ((97 : Int) ≤ (n : Int)) = true := by simp; omega
      have b4 : decide ((n : Int) ≤ 102) = true := by simp; omega
      go_enter Tryd.func34, Tryd.ntmps34
      go_wp2
      go_ret
      exact ⟨rfl, Below.refl _ _⟩
    · have e : hexN n = -1 := by unfold hexN; rw [if_neg h1, if_neg h2]
      rw [e]
      go_enter Tryd.func34, Tryd.ntmps34
      go_wp2
      all_goals (go_ret; exact ⟨rfl, Below.refl _ _⟩)
theorem hexValue_ok (w : World) (c : UInt8) : Calls Tryd.prog 34 #[bv c] w (RetV w (.int .i64 (hexV c))) := hexNum_ok w c.toNat c.toNat_lt
set_option maxRecDepth 100000 in
set_option maxHeartbeats 2000000 in
theorem whole_ok (w : World) (S : ByteArray) (hs : S.size ≤ 2000000) : Calls Tryd.prog 33 #[.string S] w (RetV w (.int .i64 (wholeS S.data.toList))) := by
  have hS := Lib.size_eq S
  obtain ⟨s, hse⟩ : ∃ s, s = S.data.toList := ⟨_, rfl⟩
  rw [← hse] at hS ⊢
  have Hse := Lib.hid hse
  have HS := Lib.hid hS
  by_cases h0 : S.size = 0
  · have e : wholeS s = -1 := by unfold wholeS; rw [if_pos (.inl (by omega))]
    rw [e]
    have b1 : ((S.size : Int) == 0) = true := by simp [h0]
    clear e hse hS
    go_enter Tryd.func33, Tryd.ntmps33
    go_wp2
    go_ret
    exact ⟨rfl, Below.refl _ _⟩
  by_cases h6 : 6 < S.size
  · have e : wholeS s = -1 := by unfold wholeS; rw [if_pos (.inr (.inl (show 6 < s.length by omega)))]
    rw [e]
    have b1 : ((S.size : Int) == 0) = false := by rw [beq_eq_false_iff_ne]; omega
    have b2 : decide ((6 : Int) < (S.size : Int)) = true := by simp; omega
    clear e hse hS
    go_enter Tryd.func33, Tryd.ntmps33
    go_wp2
    go_ret
    exact ⟨rfl, Below.refl _ _⟩
  have b1 : ((S.size : Int) == 0) = false := by rw [beq_eq_false_iff_ne]; omega
  have b2 : decide ((6 : Int) < (S.size : Int)) = false := by simp; omega
  obtain ⟨c0, hc0⟩ : ∃ c, s[0]? = some c := ⟨_, List.getElem?_eq_getElem (by omega)⟩
  have hat0 : ∀ q, (S[0]'q) = c0 := byte_atL (by rw [← hse]; exact hc0)
  have hp0 : 0 < S.size := by omega
  have hp1 : (0 : Int) < (S.size : Int) := by omega
  have Hc0 := Lib.hid (show s.head? = some c0 by rw [List.head?_eq_getElem?]; exact hc0)
  clear hc0
  by_cases hz : c0 = 48 ∧ 1 < S.size
  · have e : wholeS s = -1 := by unfold wholeS; rw [if_pos (.inr (.inr ⟨by rw [Hc0.out, hz.1], show 1 < s.length by omega⟩))]
    rw [e]
    have b3 : ((c0.toNat : Int) == 48) = true := by rw [hz.1]; rfl
    have b4 : decide ((1 : Int) < (S.size : Int)) = true := by simp; omega
    clear e hse hS hz
    go_enter Tryd.func33, Tryd.ntmps33
    go_wp2
    go_ret
    exact ⟨rfl, Below.refl _ _⟩
  have e : wholeS s = wholeF s 0 := by unfold wholeS; rw [if_neg]; rintro (h9 | h9 | ⟨h9, h10⟩); exact h0 (by omega); exact h6 (by omega); exact hz ⟨by rw [Hc0.out] at h9; exact Option.some.inj h9, by omega⟩
  rw [e]
  clear e hse hS
  have hl6 : S.size ≤ 6 := by omega
  by_cases h9 : c0 = 48
  · have b3 : ((c0.toNat : Int) == 48) = true := by rw [h9]; rfl
    have b4 : decide ((1 : Int) < (S.size : Int)) = false := by have h10 : ¬ 1 < S.size := fun h => hz ⟨h9, h⟩; simp; omega
    have Hz := Lib.hid hz
    have H9 := Lib.hid h9
    clear hz h9
    go_enter Tryd.func33, Tryd.ntmps33
    go_wp2
    go_loopw [3, 4] (fun n i wr => wr = w ∧ ∃ (m k : Nat), n = .int .i64 m ∧ i = .int .i64 k ∧ k ≤ S.size ∧ m + 1 ≤ 10 ^ k ∧ wholeF s 0 = wholeF (s.drop k) m) (fun _ i _ => S.size - (intOf i).toNat)
    case atStart => exact ⟨rfl, 0, 0, rfl, rfl, Nat.zero_le _, Nat.le_refl _, rfl⟩
    case round =>
      obtain ⟨rfl, m, k, rfl, rfl, hk, hm, hF⟩ := hrel
      have HF := Lib.hid hF
      clear hF
      have hp := Nat.pow_le_pow_right (n := 10) (by decide) (Nat.le_trans hk hl6)
      have hm6 : m ≤ 1000000 := by omega
      have HM := Lib.hid hm
      clear hm hp
      by_cases hq : k < S.size
      · have b5 : decide ((k : Int) < (S.size : Int)) = true := by simp; omega
        have hql : k < s.length := by rw [← HS.out]; omega
        obtain ⟨c, hc⟩ : ∃ c, s[k]? = some c := ⟨_, List.getElem?_eq_getElem hql⟩
        have g1 : (k : Int) < (S.size : Int) := by omega
        have g0 : (0 : Int) ≤ (k : Int) := by omega
        have hat : ∀ q, (S[k]'q) = c := byte_atL (by rw [← Hse.out]; exact hc)
        have hdr : s.drop k = c :: s.drop (k + 1) := by
          obtain ⟨_, e9⟩ := List.getElem?_eq_some_iff.1 hc
          rw [List.drop_eq_getElem_cons hql, e9]
        have Hdr := Lib.hid hdr
        have h256 : c.toNat < 256 := c.toNat_lt
        clear hdr hc
        obtain ⟨x, hx⟩ : ∃ x, x = c.toNat := ⟨_, rfl⟩
        have Hx := Lib.hid hx
        by_cases ha : c.toNat < 48
        · have b6 : decide ((c.toNat : Int) < 48) = true := by simp; omega
          have HW := Lib.hid (show wholeF s 0 = -1 by rw [HF.out, Hdr.out, wholeF, if_pos (.inl ha)])
          rw [HW.out]
          go_wp2
          go_ret
          exact ⟨rfl, Below.refl _ _⟩
        · have b6 : decide ((c.toNat : Int) < 48) = false := by simp; omega
          by_cases hb : 57 < c.toNat
          · have b7 : decide ((57 : Int) < (c.toNat : Int)) = true := by simp; omega
            have HW := Lib.hid (show wholeF s 0 = -1 by rw [HF.out, Hdr.out, wholeF, if_pos (.inr hb)])
            rw [HW.out]
            go_wp2
            go_ret
            exact ⟨rfl, Below.refl _ _⟩
          · have b7 : decide ((57 : Int) < (c.toNat : Int)) = false := by simp; omega
            have HW := Lib.hid (show wholeF s 0 = wholeF (s.drop (k + 1)) (10 * m + (c.toNat - 48)) by rw [HF.out, Hdr.out, wholeF, if_neg (by omega)])
            go_wp2
            case' roundEnd => exact ⟨⟨trivial, 10 * m + (c.toNat - 48), k + 1, by congr 1; omega, rfl, by omega, by have h9 := HM.out; rw [Nat.pow_succ]; omega, HW.out⟩, by simp [intOf]; omega⟩
      · have b5 : decide ((k : Int) < (S.size : Int)) = false := by simp; omega
        have HW := Lib.hid (show wholeF s 0 = m by rw [HF.out, List.drop_eq_nil_of_le (by rw [← HS.out]; omega)]; rfl)
        go_wp2
        go_ret
        exact ⟨by rw [HW.out]; rfl, Below.refl _ _⟩
  · have b3 : ((c0.toNat : Int) == 48) = false := by rw [beq_eq_false_iff_ne]; intro h10; exact h9 (UInt8.toNat.inj (by show c0.toNat = 48; omega))
    have Hz := Lib.hid hz
    have H9 := Lib.hid h9
    clear hz h9
    go_enter Tryd.func33, Tryd.ntmps33
    go_wp2
    go_loopw [3, 4] (fun n i wr => wr = w ∧ ∃ (m k : Nat), n = .int .i64 m ∧ i = .int .i64 k ∧ k ≤ S.size ∧ m + 1 ≤ 10 ^ k ∧ wholeF s 0 = wholeF (s.drop k) m) (fun _ i _ => S.size - (intOf i).toNat)
    case atStart => exact ⟨rfl, 0, 0, rfl, rfl, Nat.zero_le _, Nat.le_refl _, rfl⟩
    case round =>
      obtain ⟨rfl, m, k, rfl, rfl, hk, hm, hF⟩ := hrel
      have HF := Lib.hid hF
      clear hF
      have hp := Nat.pow_le_pow_right (n := 10) (by decide) (Nat.le_trans hk hl6)
      have hm6 : m ≤ 1000000 := by omega
      have HM := Lib.hid hm
      clear hm hp
      by_cases hq : k < S.size
      · have b5 : decide ((k : Int) < (S.size : Int)) = true := by simp; omega
        have hql : k < s.length := by rw [← HS.out]; omega
        obtain ⟨c, hc⟩ : ∃ c, s[k]? = some c := ⟨_, List.getElem?_eq_getElem hql⟩
        have g1 : (k : Int) < (S.size : Int) := by omega
        have g0 : (0 : Int) ≤ (k : Int) := by omega
        have hat : ∀ q, (S[k]'q) = c := byte_atL (by rw [← Hse.out]; exact hc)
        have hdr : s.drop k = c :: s.drop (k + 1) := by
          obtain ⟨_, e9⟩ := List.getElem?_eq_some_iff.1 hc
          rw [List.drop_eq_getElem_cons hql, e9]
        have Hdr := Lib.hid hdr
        have h256 : c.toNat < 256 := c.toNat_lt
        clear hdr hc
        obtain ⟨x, hx⟩ : ∃ x, x = c.toNat := ⟨_, rfl⟩
        have Hx := Lib.hid hx
        by_cases ha : c.toNat < 48
        · have b6 : decide ((c.toNat : Int) < 48) = true := by simp; omega
          have HW := Lib.hid (show wholeF s 0 = -1 by rw [HF.out, Hdr.out, wholeF, if_pos (.inl ha)])
          rw [HW.out]
          go_wp2
          go_ret
          exact ⟨rfl, Below.refl _ _⟩
        · have b6 : decide ((c.toNat : Int) < 48) = false := by simp; omega
          by_cases hb : 57 < c.toNat
          · have b7 : decide ((57 : Int) < (c.toNat : Int)) = true := by simp; omega
            have HW := Lib.hid (show wholeF s 0 = -1 by rw [HF.out, Hdr.out, wholeF, if_pos (.inr hb)])
            rw [HW.out]
            go_wp2
            go_ret
            exact ⟨rfl, Below.refl _ _⟩
          · have b7 : decide ((57 : Int) < (c.toNat : Int)) = false := by simp; omega
            have HW := Lib.hid (show wholeF s 0 = wholeF (s.drop (k + 1)) (10 * m + (c.toNat - 48)) by rw [HF.out, Hdr.out, wholeF, if_neg (by omega)])
            go_wp2
            case' roundEnd => exact ⟨⟨trivial, 10 * m + (c.toNat - 48), k + 1, by congr 1; omega, rfl, by omega, by have h9 := HM.out; rw [Nat.pow_succ]; omega, HW.out⟩, by simp [intOf]; omega⟩
      · have b5 : decide ((k : Int) < (S.size : Int)) = false := by simp; omega
        have HW := Lib.hid (show wholeF s 0 = m by rw [HF.out, List.drop_eq_nil_of_le (by rw [← HS.out]; omega)]; rfl)
        go_wp2
        go_ret
        exact ⟨by rw [HW.out]; rfl, Below.refl _ _⟩
end Go.Proofs.YtjidppcfjkjjoaaDoor
