/- The digest's function in plain words: 25 lanes of 64 bits; no program. -/
import Derived.Laws.BitsLemmas
import Derived.Laws.Bits64
import Derived.Laws.Entries
namespace Go.Proofs.YtjgdeeabejoegaaDoor
set_option linter.unusedVariables false
set_option linter.unusedSimpArgs false

abbrev Ln := BitVec 64
def rotl (x : Ln) (n : Nat) : Ln := x <<< n ||| x >>> (64 - n)
def ga (s : List Ln) (i : Nat) : Ln := s.getD i 0
/-- n items, item by item. -/
def tab (n : Nat) (f : Nat → Ln) : List Ln := (List.range n).map f
theorem tab_len (n : Nat) (f : Nat → Ln) : (tab n f).length = n := by simp [tab]
theorem ga_tab {n i : Nat} (f : Nat → Ln) (h : i < n) : ga (tab n f) i = f i := by
  unfold ga tab
  rw [List.getD_eq_getElem?_getD, List.getElem?_map, List.getElem?_range h]
  rfl
theorem tab_congr {n : Nat} {f g : Nat → Ln} (h : ∀ k, k < n → f k = g k) : tab n f = tab n g :=
  List.map_congr_left fun k hk => h k (List.mem_range.1 hk)
theorem tab_get (n i : Nat) (f : Nat → Ln) : (tab n f)[i]? = if i < n then some (f i) else none := by
  unfold tab
  rw [List.getElem?_map]
  by_cases h : i < n
  · rw [if_pos h, List.getElem?_range h]
    rfl
  · rw [if_neg h, List.getElem?_eq_none (by simp; omega)]
    rfl
theorem tab_self {s : List Ln} {n : Nat} (h : s.length = n) : tab n (ga s) = s := by
  apply List.ext_getElem?
  intro i
  rw [tab_get]
  by_cases hi : i < n
  · rw [if_pos hi, List.getElem?_eq_getElem (by omega), ga, List.getD_eq_getElem?_getD, List.getElem?_eq_getElem (by omega)]
    rfl
  · rw [if_neg hi, List.getElem?_eq_none (by omega)]
theorem tab_set {n i : Nat} (f : Nat → Ln) (v : Ln) : (tab n f).set i v = tab n (fun k => if k = i then v else f k) := by
  apply List.ext_getElem?
  intro k
  rw [tab_get, List.getElem?_set, tab_get, tab_len]
  by_cases hk : i = k
  · subst hk
    by_cases h : i < n
    · rw [if_pos rfl, if_pos h, if_pos h, if_pos rfl]
    · rw [if_pos rfl, if_neg h, if_neg h]
  · rw [if_neg hk]
    by_cases h : k < n
    · rw [if_pos h, if_pos h, if_neg (fun e => hk e.symm)]
    · rw [if_neg h, if_neg h]
/-- The first i of n items are new. -/
def upto (n : Nat) (f : Nat → Ln) (s : List Ln) (i : Nat) : List Ln := tab n fun k => if k < i then f k else ga s k
theorem upto_zero {n : Nat} (f : Nat → Ln) {s : List Ln} (h : s.length = n) : upto n f s 0 = s := by
  rw [upto]
  exact Eq.trans (tab_congr fun k hk => by rw [if_neg (by omega)]) (tab_self h)
theorem upto_next {n i : Nat} (f : Nat → Ln) (s : List Ln) : (upto n f s i).set i (f i) = upto n f s (i + 1) := by
  rw [upto, tab_set, upto]
  refine tab_congr fun k _ => ?_
  by_cases h1 : k = i
  · subst h1
    rw [if_pos rfl, if_pos (by omega)]
  · rw [if_neg h1]
    by_cases h2 : k < i
    · rw [if_pos h2, if_pos (by omega)]
    · rw [if_neg h2, if_neg (by omega)]
theorem upto_all {n : Nat} (f : Nat → Ln) (s : List Ln) : upto n f s n = tab n f := tab_congr fun k hk => by rw [if_pos hk]
theorem upto_old {n i k : Nat} (f : Nat → Ln) (s : List Ln) (h : k < n) (hi : i ≤ k) : ga (upto n f s i) k = ga s k := by
  rw [upto, ga_tab _ h, if_neg (by omega)]
theorem upto_len (n : Nat) (f : Nat → Ln) (s : List Ln) (i : Nat) : (upto n f s i).length = n := tab_len _ _

/-- All lanes of one x, mixed. -/
def colS (s : List Ln) (x : Nat) : Ln := ga s x ^^^ ga s (x + 5) ^^^ ga s (x + 10) ^^^ ga s (x + 15) ^^^ ga s (x + 20)
def thetaS (s : List Ln) (k : Nat) : Ln := ga s k ^^^ (colS s ((k % 5 + 4) % 5) ^^^ rotl (colS s ((k % 5 + 1) % 5)) 1)
def goesT : List Nat := [10, 7, 11, 17, 18, 3, 5, 16, 8, 21, 24, 4, 15, 23, 19, 13, 12, 2, 20, 14, 22, 9, 6, 1]
def turnsT : List Nat := [1, 3, 6, 10, 15, 21, 28, 36, 45, 55, 2, 14, 27, 41, 56, 8, 25, 43, 62, 18, 39, 61, 20, 44]
def roundsT : List Nat := [0x0000000000000001, 0x0000000000008082, 0x800000000000808a, 0x8000000080008000, 0x000000000000808b, 0x0000000080000001, 0x8000000080008081, 0x8000000000008009, 0x000000000000008a, 0x0000000000000088, 0x0000000080008009, 0x000000008000000a, 0x000000008000808b, 0x800000000000008b, 0x8000000000008089, 0x8000000000008003, 0x8000000000008002, 0x8000000000000080, 0x000000000000800a, 0x800000008000000a, 0x8000000080008081, 0x8000000000008080, 0x0000000080000001, 0x8000000080008008]
def goS (i : Nat) : Nat := goesT.getD i 0
def tnS (i : Nat) : Nat := turnsT.getD i 0
/-- The lane that is moved in round i of the moves. -/
def srcS (i : Nat) : Nat := if i = 0 then 1 else goS (i - 1)
/-- The round in which lane k is written; 24: none. -/
def posS (k : Nat) : Nat := goesT.idxOf k
theorem go_lt : ∀ i, i < 24 → goS i < 25 ∧ goS i ≠ 0 := by decide
theorem src_lt : ∀ i, i < 25 → srcS i < 25 := by decide
theorem tn_lt : ∀ i, i < 24 → 1 ≤ tnS i ∧ tnS i < 63 := by decide
theorem pos_go : ∀ i, i < 24 → posS (goS i) = i := by decide
theorem pos_lt : ∀ k, k < 25 → k ≠ 0 → posS k < 24 := by decide
theorem pos_zero : posS 0 = 24 := by decide
theorem go_pos : ∀ k, k < 25 → posS k < 24 → goS (posS k) = k := by decide
/-- The lane k behind all moves. -/
def moveAt (s : List Ln) (k : Nat) : Ln := rotl (ga s (srcS (posS k))) (tnS (posS k))
/-- Behind i moves, over old lanes. -/
def movesT (old s : List Ln) (i : Nat) : List Ln := tab 25 fun k => if posS k < i then moveAt s k else ga old k
theorem moves_zero {old s : List Ln} (h : old.length = 25) : movesT old s 0 = old := by
  rw [movesT]
  refine Eq.trans (tab_congr fun k hk => ?_) (tab_self h)
  rw [if_neg (by omega)]
theorem moves_next (old s : List Ln) {i : Nat} (h : i < 24) : (movesT old s i).set (goS i) (rotl (ga s (srcS i)) (tnS i)) = movesT old s (i + 1) := by
  rw [movesT, tab_set, movesT]
  refine tab_congr fun k hk => ?_
  by_cases h1 : k = goS i
  · rw [if_pos h1, h1, pos_go i h, if_pos (by omega), moveAt, pos_go i h]
  · rw [if_neg h1]
    have h2 : posS k ≠ i := fun e => by
      have := go_pos k hk (by omega)
      rw [e] at this
      exact h1 this.symm
    by_cases h3 : posS k < i
    · rw [if_pos h3, if_pos (by omega)]
    · rw [if_neg h3, if_neg (by omega)]
theorem moves_old (old s : List Ln) {i : Nat} (h : i < 24) : ga (movesT old s i) (goS i) = ga old (goS i) := by
  rw [movesT, ga_tab _ (go_lt i h).1, pos_go i h, if_neg (by omega)]
/-- All moves. -/
def movesS (s : List Ln) : List Ln := tab 25 fun k => if k = 0 then ga s 0 else moveAt s k
theorem moves_all {old s : List Ln} (h : ga old 0 = ga s 0) : movesT old s 24 = movesS s := by
  refine tab_congr fun k hk => ?_
  by_cases h1 : k = 0
  · subst h1
    rw [pos_zero, if_neg (by omega), if_pos rfl, h]
  · rw [if_pos (pos_lt k hk h1), if_neg h1]
def chiS (s : List Ln) (k : Nat) : Ln := ga s k ^^^ (~~~ ga s ((k % 5 + 1) % 5 + k / 5 * 5) &&& ga s ((k % 5 + 2) % 5 + k / 5 * 5))
def iotaS (s : List Ln) (v : Ln) : List Ln := s.set 0 (ga s 0 ^^^ v)
def rcS (r : Nat) : Ln := BitVec.ofNat 64 (roundsT.getD r 0)
def mixS (s : List Ln) : List Ln := tab 25 (chiS (movesS (tab 25 (thetaS s))))
def stirS (s : List Ln) (r : Nat) : List Ln := iotaS (mixS s) (rcS r)
theorem mix_len (s : List Ln) : (mixS s).length = 25 := tab_len _ _
theorem stir_len (s : List Ln) (r : Nat) : (stirS s r).length = 25 := by rw [stirS, iotaS, List.length_set, mix_len]
def stirsS (s : List Ln) (n : Nat) : List Ln := (List.range n).foldl stirS s
theorem stirs_next (s : List Ln) (n : Nat) : stirsS s (n + 1) = stirS (stirsS s n) n := by
  rw [stirsS, List.range_succ, List.foldl_append]
  rfl
theorem stirs_len {s : List Ln} (h : s.length = 25) : ∀ n, (stirsS s n).length = 25
  | 0 => h
  | n + 1 => by rw [stirs_next]; exact stir_len _ _

/-! ### bytes as lanes -/
def byteAt (p : List UInt8) (i : Nat) : Nat := (p.getD i 0).toNat
/-- The first m bytes of lane k. -/
def lowS (p : List UInt8) (k : Nat) : Nat → Nat
  | 0 => 0
  | m + 1 => lowS p k m + byteAt p (8 * k + m) * 256 ^ m
/-- The bytes of lane k from m on. -/
def highS (p : List UInt8) (k m : Nat) : Nat := lowS p k 8 / 256 ^ m
theorem byte_lt (p : List UInt8) (i : Nat) : byteAt p i < 256 := by unfold byteAt; exact UInt8.toNat_lt _
theorem low_lt (p : List UInt8) (k : Nat) : ∀ m, lowS p k m < 256 ^ m
  | 0 => by simp [lowS]
  | m + 1 => by
    have h1 := low_lt p k m
    have h2 := byte_lt p (8 * k + m)
    have h3 : byteAt p (8 * k + m) * 256 ^ m ≤ 255 * 256 ^ m := Nat.mul_le_mul_right _ (by omega)
    rw [lowS, Nat.pow_succ]
    omega
theorem xor_join {a b i : Nat} (h : a < 2 ^ i) : a ^^^ (b * 2 ^ i) = a + b * 2 ^ i := by
  apply Nat.eq_of_testBit_eq
  intro j
  rw [Nat.testBit_xor, Nat.add_comm, Nat.mul_comm, Nat.testBit_two_pow_mul_add _ h]
  by_cases hj : j < i
  · rw [if_pos hj, Nat.testBit_two_pow_mul]
    simp [Nat.not_le.2 hj]
  · rw [if_neg hj, Nat.testBit_two_pow_mul, Nat.testBit_lt_two_pow (Nat.lt_of_lt_of_le h (Nat.pow_le_pow_right (by decide) (by omega)))]
    simp [Nat.not_lt.1 hj]
def laneS (p : List UInt8) (k m : Nat) : Ln := BitVec.ofNat 64 (lowS p k m)
theorem pow256 (m : Nat) : 256 ^ m = 2 ^ (8 * m) := by rw [Nat.pow_mul]
theorem lane_next (p : List UInt8) (k : Nat) {m : Nat} (h : m < 8) : laneS p k m ^^^ BitVec.ofNat 64 (byteAt p (8 * k + m) * 2 ^ (8 * m)) = laneS p k (m + 1) := by
  apply BitVec.eq_of_toNat_eq
  have h1 := low_lt p k m
  have h2 := byte_lt p (8 * k + m)
  have h3 := low_lt p k (m + 1)
  have h4 : 256 ^ (m + 1) ≤ 2 ^ 64 := by rw [pow256]; exact Nat.pow_le_pow_right (by decide) (by omega)
  have h5 : lowS p k (m + 1) = lowS p k m + byteAt p (8 * k + m) * 2 ^ (8 * m) := by rw [← pow256]; rfl
  rw [pow256] at h1
  rw [laneS, laneS, BitVec.toNat_xor, BitVec.toNat_ofNat, BitVec.toNat_ofNat, BitVec.toNat_ofNat, Nat.mod_eq_of_lt (by omega), Nat.mod_eq_of_lt (by omega), Nat.mod_eq_of_lt (by omega), h5]
  exact xor_join h1
theorem high_eight (p : List UInt8) (k : Nat) : highS p k 8 = 0 := Nat.div_eq_of_lt (low_lt p k 8)
theorem high_zero (p : List UInt8) (k : Nat) : highS p k 0 = lowS p k 8 := by rw [highS, Nat.pow_zero, Nat.div_one]
theorem low_div (p : List UInt8) (k : Nat) : ∀ m, m ≤ 8 → ∃ h, lowS p k 8 = lowS p k m + h * 256 ^ m
  | 0, _ => ⟨lowS p k 8, by simp [lowS]⟩
  | m + 1, hm => by
    obtain ⟨h, e⟩ : ∃ h, lowS p k 8 = lowS p k (m + 1) + h * 256 ^ (m + 1) := by
      have : m + 1 = 1 ∨ m + 1 = 2 ∨ m + 1 = 3 ∨ m + 1 = 4 ∨ m + 1 = 5 ∨ m + 1 = 6 ∨ m + 1 = 7 ∨ m + 1 = 8 := by omega
      have b := fun i => byte_lt p (8 * k + i)
      rcases this with h | h | h | h | h | h | h | h <;> rw [h] <;> simp only [lowS, Nat.reducePow, Nat.reduceAdd, Nat.zero_add]
      · exact ⟨byteAt p (8 * k + 1) + 256 * byteAt p (8 * k + 2) + 65536 * byteAt p (8 * k + 3) + 16777216 * byteAt p (8 * k + 4) + 4294967296 * byteAt p (8 * k + 5) + 1099511627776 * byteAt p (8 * k + 6) + 281474976710656 * byteAt p (8 * k + 7), by omega⟩
      · exact ⟨byteAt p (8 * k + 2) + 256 * byteAt p (8 * k + 3) + 65536 * byteAt p (8 * k + 4) + 16777216 * byteAt p (8 * k + 5) + 4294967296 * byteAt p (8 * k + 6) + 1099511627776 * byteAt p (8 * k + 7), by omega⟩
      · exact ⟨byteAt p (8 * k + 3) + 256 * byteAt p (8 * k + 4) + 65536 * byteAt p (8 * k + 5) + 16777216 * byteAt p (8 * k + 6) + 4294967296 * byteAt p (8 * k + 7), by omega⟩
      · exact ⟨byteAt p (8 * k + 4) + 256 * byteAt p (8 * k + 5) + 65536 * byteAt p (8 * k + 6) + 16777216 * byteAt p (8 * k + 7), by omega⟩
      · exact ⟨byteAt p (8 * k + 5) + 256 * byteAt p (8 * k + 6) + 65536 * byteAt p (8 * k + 7), by omega⟩
      · exact ⟨byteAt p (8 * k + 6) + 256 * byteAt p (8 * k + 7), by omega⟩
      · exact ⟨byteAt p (8 * k + 7), by omega⟩
      · exact ⟨0, by omega⟩
    exact ⟨h, e⟩
theorem high_next (p : List UInt8) (k : Nat) {m : Nat} (h : m < 8) : highS p k m = highS p k (m + 1) * 256 + byteAt p (8 * k + m) := by
  obtain ⟨q, e⟩ := low_div p k (m + 1) (by omega)
  have h1 := low_lt p k m
  have h2 := byte_lt p (8 * k + m)
  have h3 := low_lt p k (m + 1)
  have hp : 0 < 256 ^ m := Nat.pow_pos (by decide)
  have e1 : highS p k (m + 1) = q := by
    rw [highS, e, Nat.add_mul_div_right _ _ (Nat.pow_pos (by decide)), Nat.div_eq_of_lt h3, Nat.zero_add]
  have e2 : lowS p k 8 = lowS p k m + (q * 256 + byteAt p (8 * k + m)) * 256 ^ m := by
    rw [e, lowS, Nat.pow_succ, Nat.add_mul, Nat.mul_assoc, Nat.mul_comm 256]
    omega
  rw [e1, highS, e2, Nat.add_mul_div_right _ _ hp, Nat.div_eq_of_lt h1, Nat.zero_add]
/-- All bytes of a block mixed in. -/
def absorbS (s : List Ln) (p : List UInt8) : List Ln := tab 25 fun k => if k < 17 then ga s k ^^^ laneS p k 8 else ga s k
/-- The first i bytes mixed in. -/
def absorbT (s : List Ln) (p : List UInt8) (i : Nat) : List Ln := tab 25 fun k => if k < 17 then ga s k ^^^ laneS p k (min 8 (i - 8 * k)) else ga s k
theorem lane_zero (p : List UInt8) (k : Nat) : laneS p k 0 = 0 := rfl
theorem absorb_zero {s : List Ln} (h : s.length = 25) (p : List UInt8) : absorbT s p 0 = s := by
  rw [absorbT]
  refine Eq.trans (tab_congr fun k hk => ?_) (tab_self h)
  rw [show min 8 (0 - 8 * k) = 0 by omega, lane_zero]
  split <;> simp
theorem absorb_all (s : List Ln) (p : List UInt8) : absorbT s p 136 = absorbS s p := by
  refine tab_congr fun k hk => ?_
  by_cases h : k < 17
  · rw [if_pos h, if_pos h, show min 8 (136 - 8 * k) = 8 by omega]
  · rw [if_neg h, if_neg h]
theorem absorb_next (s : List Ln) (p : List UInt8) {i : Nat} (h : i < 136) :
    (absorbT s p i).set (i / 8) (ga (absorbT s p i) (i / 8) ^^^ BitVec.ofNat 64 (byteAt p i * 2 ^ (i % 8 * 8))) = absorbT s p (i + 1) := by
  have e : ga (absorbT s p i) (i / 8) = ga s (i / 8) ^^^ laneS p (i / 8) (i % 8) := by
    rw [absorbT, ga_tab _ (by omega), if_pos (by omega), show min 8 (i - 8 * (i / 8)) = i % 8 by omega]
  have h8 := lane_next p (i / 8) (m := i % 8) (by omega)
  rw [show 8 * (i / 8) + i % 8 = i by omega, Nat.mul_comm 8] at h8
  rw [e, BitVec.xor_assoc, h8, absorbT, tab_set, absorbT]
  refine tab_congr fun k hk => ?_
  by_cases h1 : k = i / 8
  · subst h1
    rw [if_pos rfl, if_pos (by omega), show min 8 (i + 1 - 8 * (i / 8)) = i % 8 + 1 by omega]
  · rw [if_neg h1]
    by_cases h2 : k < 17
    · rw [if_pos h2, if_pos h2, show min 8 (i - 8 * k) = min 8 (i + 1 - 8 * k) by omega]
    · rw [if_neg h2, if_neg h2]
/-- Block by block. -/
def spS (p : List UInt8) : Nat → List Ln
  | 0 => List.replicate 25 0
  | n + 1 => stirsS (absorbS (spS p n) (p.drop (136 * n))) 24
theorem sp_len (p : List UInt8) : ∀ n, (spS p n).length = 25
  | 0 => rfl
  | n + 1 => by rw [spS]; exact stirs_len (tab_len _ _) 24
def padS (b : List UInt8) : List UInt8 :=
  let z := b ++ [6] ++ List.replicate (135 - b.length % 136) 0
  z.set (z.length - 1) (z.getD (z.length - 1) 0 + 128)
def zeroS : List Ln := List.replicate 25 0
def outS32 (s : List Ln) (n : Nat) : List UInt8 := (List.range n).map fun i => UInt8.ofNat ((ga s (i / 8)).toNat / 2 ^ (i % 8 * 8) % 256)
theorem out_next (s : List Ln) (n : Nat) : outS32 s (n + 1) = outS32 s n ++ [UInt8.ofNat ((ga s (n / 8)).toNat / 2 ^ (n % 8 * 8) % 256)] := by
  rw [outS32, List.range_succ, List.map_append]
  rfl
/-- What a digest is. -/
def digS (b : List UInt8) : List UInt8 := outS32 (spS (padS b) ((padS b).length / 136)) 32
theorem dig_len (b : List UInt8) : (digS b).length = 32 := by simp [digS, outS32]
end Go.Proofs.YtjgdeeabejoegaaDoor
