/- Kec: The digest's function in plain words: 25 lanes of 64 bits; no program. Lanes as the model's numbers: without a sign, and with one. The state of 25 lanes in a block; tables of the digest: words for memory; plain laws of stir. Plain laws of the references' digest: places of lanes, the register of bits, bytes out of lanes. The conditions of each are in its words. -/
import Derived.Laws.BitsLemmas
import Derived.Laws.Bits64
import Derived.Laws.Entries
import Derived.Deep.MidRow
import Derived.Test.YteacjkihjeiafaaDoorKBase
namespace Go.Proofs.YteacjkihjeiafaaDoor
set_option linter.unusedVariables false
set_option linter.unusedSimpArgs false

abbrev Ln := BitVec 64
def rotl (x : Ln) (n : Nat) : Ln := x <<< n ||| x >>> (64 - n)
def ga (s : List Ln) (i : Nat) : Ln := s.getD i 0
/-- n items, item by item. -/
def tab (n : Nat) (f : Nat → Ln) : List Ln := (List.range n).map f
theorem tab_len (n : Nat) (f : Nat → Ln) : (tab n f).length = n := by simp [tab]
theorem ga_tab {n i : Nat} (f : Nat → Ln) (h : i < n) : ga (tab n f) i = f i := by
  unfold ga tab
  rw [List.getD_eq_getElem?_getD, List.getElem?_map, List.getElem?_range h]
  rfl
theorem tab_congr {n : Nat} {f g : Nat → Ln} (h : ∀ k, k < n → f k = g k) : tab n f = tab n g :=
  List.map_congr_left fun k hk => h k (List.mem_range.1 hk)
theorem tab_get (n i : Nat) (f : Nat → Ln) : (tab n f)[i]? = if i < n then some (f i) else none := by
  unfold tab
  rw [List.getElem?_map]
  by_cases h : i < n
  · rw [if_pos h, List.getElem?_range h]
    rfl
  · rw [if_neg h, List.getElem?_eq_none (by simp; omega)]
    rfl
theorem tab_self {s : List Ln} {n : Nat} (h : s.length = n) : tab n (ga s) = s := by
  apply List.ext_getElem?
  intro i
  rw [tab_get]
  by_cases hi : i < n
  · rw [if_pos hi, List.getElem?_eq_getElem (by omega), ga, List.getD_eq_getElem?_getD, List.getElem?_eq_getElem (by omega)]
    rfl
  · rw [if_neg hi, List.getElem?_eq_none (by omega)]
theorem tab_set {n i : Nat} (f : Nat → Ln) (v : Ln) : (tab n f).set i v = tab n (fun k => if k = i then v else f k) := by
  apply List.ext_getElem?
  intro k
  rw [tab_get, List.getElem?_set, tab_get, tab_len]
  by_cases hk : i = k
  · subst hk
    by_cases h : i < n
    · rw [if_pos rfl, if_pos h, if_pos h, if_pos rfl]
    · rw [if_pos rfl, if_neg h, if_neg h]
  · rw [if_neg hk]
    by_cases h : k < n
    · rw [if_pos h, if_pos h, if_neg (fun e => hk e.symm)]
    · rw [if_neg h, if_neg h]
/-- The first i of n items are new. -/
def upto (n : Nat) (f : Nat → Ln) (s : List Ln) (i : Nat) : List Ln := tab n fun k => if k < i then f k else ga s k
theorem upto_zero {n : Nat} (f : Nat → Ln) {s : List Ln} (h : s.length = n) : upto n f s 0 = s := by
  rw [upto]
  exact Eq.trans (tab_congr fun k hk => by rw [if_neg (by omega)]) (tab_self h)
theorem upto_next {n i : Nat} (f : Nat → Ln) (s : List Ln) : (upto n f s i).set i (f i) = upto n f s (i + 1) := by
  rw [upto, tab_set, upto]
  refine tab_congr fun k _ => ?_
  by_cases h1 : k = i
  · subst h1
    rw [if_pos rfl, if_pos (by omega)]
  · rw [if_neg h1]
    by_cases h2 : k < i
    · rw [if_pos h2, if_pos (by omega)]
    · rw [if_neg h2, if_neg (by omega)]
theorem upto_all {n : Nat} (f : Nat → Ln) (s : List Ln) : upto n f s n = tab n f := tab_congr fun k hk => by rw [if_pos hk]
theorem upto_old {n i k : Nat} (f : Nat → Ln) (s : List Ln) (h : k < n) (hi : i ≤ k) : ga (upto n f s i) k = ga s k := by
  rw [upto, ga_tab _ h, if_neg (by omega)]
theorem upto_len (n : Nat) (f : Nat → Ln) (s : List Ln) (i : Nat) : (upto n f s i).length = n := tab_len _ _

/-- All lanes of one x, mixed. -/
def colS (s : List Ln) (x : Nat) : Ln := ga s x ^^^ ga s (x + 5) ^^^ ga s (x + 10) ^^^ ga s (x + 15) ^^^ ga s (x + 20)
def thetaS (s : List Ln) (k : Nat) : Ln := ga s k ^^^ (colS s ((k % 5 + 4) % 5) ^^^ rotl (colS s ((k % 5 + 1) % 5)) 1)
def goesT : List Nat := [10, 7, 11, 17, 18, 3, 5, 16, 8, 21, 24, 4, 15, 23, 19, 13, 12, 2, 20, 14, 22, 9, 6, 1]
def turnsT : List Nat := [1, 3, 6, 10, 15, 21, 28, 36, 45, 55, 2, 14, 27, 41, 56, 8, 25, 43, 62, 18, 39, 61, 20, 44]
def roundsT : List Nat := [0x0000000000000001, 0x0000000000008082, 0x800000000000808a, 0x8000000080008000, 0x000000000000808b, 0x0000000080000001, 0x8000000080008081, 0x8000000000008009, 0x000000000000008a, 0x0000000000000088, 0x0000000080008009, 0x000000008000000a, 0x000000008000808b, 0x800000000000008b, 0x8000000000008089, 0x8000000000008003, 0x8000000000008002, 0x8000000000000080, 0x000000000000800a, 0x800000008000000a, 0x8000000080008081, 0x8000000000008080, 0x0000000080000001, 0x8000000080008008]
def goS (i : Nat) : Nat := goesT.getD i 0
def tnS (i : Nat) : Nat := turnsT.getD i 0
/-- The lane that is moved in round i of the moves. -/
def srcS (i : Nat) : Nat := if i = 0 then 1 else goS (i - 1)
/-- The round in which lane k is written; 24: none. -/
def posS (k : Nat) : Nat := goesT.idxOf k
theorem go_lt : ∀ i, i < 24 → goS i < 25 ∧ goS i ≠ 0 := by decide
theorem src_lt : ∀ i, i < 25 → srcS i < 25 := by decide
theorem tn_lt : ∀ i, i < 24 → 1 ≤ tnS i ∧ tnS i < 63 := by decide
theorem pos_go : ∀ i, i < 24 → posS (goS i) = i := by decide
theorem pos_lt : ∀ k, k < 25 → k ≠ 0 → posS k < 24 := by decide
theorem pos_zero : posS 0 = 24 := by decide
theorem go_pos : ∀ k, k < 25 → posS k < 24 → goS (posS k) = k := by decide
/-- The lane k behind all moves. -/
def moveAt (s : List Ln) (k : Nat) : Ln := rotl (ga s (srcS (posS k))) (tnS (posS k))
/-- Behind i moves, over old lanes. -/
def movesT (old s : List Ln) (i : Nat) : List Ln := tab 25 fun k => if posS k < i then moveAt s k else ga old k
theorem moves_zero {old s : List Ln} (h : old.length = 25) : movesT old s 0 = old := by
  rw [movesT]
  refine Eq.trans (tab_congr fun k hk => ?_) (tab_self h)
  rw [if_neg (by omega)]
theorem moves_next (old s : List Ln) {i : Nat} (h : i < 24) : (movesT old s i).set (goS i) (rotl (ga s (srcS i)) (tnS i)) = movesT old s (i + 1) := by
  rw [movesT, tab_set, movesT]
  refine tab_congr fun k hk => ?_
  by_cases h1 : k = goS i
  · rw [if_pos h1, h1, pos_go i h, if_pos (by omega), moveAt, pos_go i h]
  · rw [if_neg h1]
    have h2 : posS k ≠ i := fun e => by
      have := go_pos k hk (by omega)
      rw [e] at this
      exact h1 this.symm
    by_cases h3 : posS k < i
    · rw [if_pos h3, if_pos (by omega)]
    · rw [if_neg h3, if_neg (by omega)]
theorem moves_old (old s : List Ln) {i : Nat} (h : i < 24) : ga (movesT old s i) (goS i) = ga old (goS i) := by
  rw [movesT, ga_tab _ (go_lt i h).1, pos_go i h, if_neg (by omega)]
/-- All moves. -/
def movesS (s : List Ln) : List Ln := tab 25 fun k => if k = 0 then ga s 0 else moveAt s k
theorem moves_all {old s : List Ln} (h : ga old 0 = ga s 0) : movesT old s 24 = movesS s := by
  refine tab_congr fun k hk => ?_
  by_cases h1 : k = 0
  · subst h1
    rw [pos_zero, if_neg (by omega), if_pos rfl, h]
  · rw [if_pos (pos_lt k hk h1), if_neg h1]
def chiS (s : List Ln) (k : Nat) : Ln := ga s k ^^^ (~~~ ga s ((k % 5 + 1) % 5 + k / 5 * 5) &&& ga s ((k % 5 + 2) % 5 + k / 5 * 5))
def iotaS (s : List Ln) (v : Ln) : List Ln := s.set 0 (ga s 0 ^^^ v)
def rcS (r : Nat) : Ln := BitVec.ofNat 64 (roundsT.getD r 0)
def mixS (s : List Ln) : List Ln := tab 25 (chiS (movesS (tab 25 (thetaS s))))
def stirS (s : List Ln) (r : Nat) : List Ln := iotaS (mixS s) (rcS r)
theorem mix_len (s : List Ln) : (mixS s).length = 25 := tab_len _ _
theorem stir_len (s : List Ln) (r : Nat) : (stirS s r).length = 25 := by rw [stirS, iotaS, List.length_set, mix_len]
def stirsS (s : List Ln) (n : Nat) : List Ln := (List.range n).foldl stirS s
theorem stirs_next (s : List Ln) (n : Nat) : stirsS s (n + 1) = stirS (stirsS s n) n := by
  rw [stirsS, List.range_succ, List.foldl_append]
  rfl
theorem stirs_len {s : List Ln} (h : s.length = 25) : ∀ n, (stirsS s n).length = 25
  | 0 => h
  | n + 1 => by rw [stirs_next]; exact stir_len _ _

/-! ### bytes as lanes -/
def byteAt (p : List UInt8) (i : Nat) : Nat := (p.getD i 0).toNat
/-- The first m bytes of lane k. -/
def lowS (p : List UInt8) (k : Nat) : Nat → Nat
  | 0 => 0
  | m + 1 => lowS p k m + byteAt p (8 * k + m) * 256 ^ m
/-- The bytes of lane k from m on. -/
def highS (p : List UInt8) (k m : Nat) : Nat := lowS p k 8 / 256 ^ m
theorem byte_lt (p : List UInt8) (i : Nat) : byteAt p i < 256 := by unfold byteAt; exact UInt8.toNat_lt _
theorem low_lt (p : List UInt8) (k : Nat) : ∀ m, lowS p k m < 256 ^ m
  | 0 => by simp [lowS]
  | m + 1 => by
    have h1 := low_lt p k m
    have h2 := byte_lt p (8 * k + m)
    have h3 : byteAt p (8 * k + m) * 256 ^ m ≤ 255 * 256 ^ m := Nat.mul_le_mul_right _ (by omega)
    rw [lowS, Nat.pow_succ]
    omega
theorem xor_join {a b i : Nat} (h : a < 2 ^ i) : a ^^^ (b * 2 ^ i) = a + b * 2 ^ i := by
  apply Nat.eq_of_testBit_eq
  intro j
  rw [Nat.testBit_xor, Nat.add_comm, Nat.mul_comm, Nat.testBit_two_pow_mul_add _ h]
  by_cases hj : j < i
  · rw [if_pos hj, Nat.testBit_two_pow_mul]
    simp [Nat.not_le.2 hj]
  · rw [if_neg hj, Nat.testBit_two_pow_mul, Nat.testBit_lt_two_pow (Nat.lt_of_lt_of_le h (Nat.pow_le_pow_right (by decide) (by omega)))]
    simp [Nat.not_lt.1 hj]
def laneS (p : List UInt8) (k m : Nat) : Ln := BitVec.ofNat 64 (lowS p k m)
theorem pow256 (m : Nat) : 256 ^ m = 2 ^ (8 * m) := by rw [Nat.pow_mul]
theorem lane_next (p : List UInt8) (k : Nat) {m : Nat} (h : m < 8) : laneS p k m ^^^ BitVec.ofNat 64 (byteAt p (8 * k + m) * 2 ^ (8 * m)) = laneS p k (m + 1) := by
  apply BitVec.eq_of_toNat_eq
  have h1 := low_lt p k m
  have h2 := byte_lt p (8 * k + m)
  have h3 := low_lt p k (m + 1)
  have h4 : 256 ^ (m + 1) ≤ 2 ^ 64 := by rw [pow256]; exact Nat.pow_le_pow_right (by decide) (by omega)
  have h5 : lowS p k (m + 1) = lowS p k m + byteAt p (8 * k + m) * 2 ^ (8 * m) := by rw [← pow256]; rfl
  rw [pow256] at h1
  rw [laneS, laneS, BitVec.toNat_xor, BitVec.toNat_ofNat, BitVec.toNat_ofNat, BitVec.toNat_ofNat, Nat.mod_eq_of_lt (by omega), Nat.mod_eq_of_lt (by omega), Nat.mod_eq_of_lt (by omega), h5]
  exact xor_join h1
theorem high_eight (p : List UInt8) (k : Nat) : highS p k 8 = 0 := Nat.div_eq_of_lt (low_lt p k 8)
theorem high_zero (p : List UInt8) (k : Nat) : highS p k 0 = lowS p k 8 := by rw [highS, Nat.pow_zero, Nat.div_one]
theorem low_div (p : List UInt8) (k : Nat) : ∀ m, m ≤ 8 → ∃ h, lowS p k 8 = lowS p k m + h * 256 ^ m
  | 0, _ => ⟨lowS p k 8, by simp [lowS]⟩
  | m + 1, hm => by
    obtain ⟨h, e⟩ : ∃ h, lowS p k 8 = lowS p k (m + 1) + h * 256 ^ (m + 1) := by
      have : m + 1 = 1 ∨ m + 1 = 2 ∨ m + 1 = 3 ∨ m + 1 = 4 ∨ m + 1 = 5 ∨ m + 1 = 6 ∨ m + 1 = 7 ∨ m + 1 = 8 := by omega
      have b := fun i => byte_lt p (8 * k + i)
      rcases this with h | h | h | h | h | h | h | h <;> rw [h] <;> simp only [lowS, Nat.reducePow, Nat.reduceAdd, Nat.zero_add]
      · exact ⟨byteAt p (8 * k + 1) + 256 * byteAt p (8 * k + 2) + 65536 * byteAt p (8 * k + 3) + 16777216 * byteAt p (8 * k + 4) + 4294967296 * byteAt p (8 * k + 5) + 1099511627776 * byteAt p (8 * k + 6) + 281474976710656 * byteAt p (8 * k + 7), by omega⟩
      · exact ⟨byteAt p (8 * k + 2) + 256 * byteAt p (8 * k + 3) + 65536 * byteAt p (8 * k + 4) + 16777216 * byteAt p (8 * k + 5) + 4294967296 * byteAt p (8 * k + 6) + 1099511627776 * byteAt p (8 * k + 7), by omega⟩
      · exact ⟨byteAt p (8 * k + 3) + 256 * byteAt p (8 * k + 4) + 65536 * byteAt p (8 * k + 5) + 16777216 * byteAt p (8 * k + 6) + 4294967296 * byteAt p (8 * k + 7), by omega⟩
      · exact ⟨byteAt p (8 * k + 4) + 256 * byteAt p (8 * k + 5) + 65536 * byteAt p (8 * k + 6) + 16777216 * byteAt p (8 * k + 7), by omega⟩
      · exact ⟨byteAt p (8 * k + 5) + 256 * byteAt p (8 * k + 6) + 65536 * byteAt p (8 * k + 7), by omega⟩
      · exact ⟨byteAt p (8 * k + 6) + 256 * byteAt p (8 * k + 7), by omega⟩
      · exact ⟨byteAt p (8 * k + 7), by omega⟩
      · exact ⟨0, by omega⟩
    exact ⟨h, e⟩
theorem high_next (p : List UInt8) (k : Nat) {m : Nat} (h : m < 8) : highS p k m = highS p k (m + 1) * 256 + byteAt p (8 * k + m) := by
  obtain ⟨q, e⟩ := low_div p k (m + 1) (by omega)
  have h1 := low_lt p k m
  have h2 := byte_lt p (8 * k + m)
  have h3 := low_lt p k (m + 1)
  have hp : 0 < 256 ^ m := Nat.pow_pos (by decide)
  have e1 : highS p k (m + 1) = q := by
    rw [highS, e, Nat.add_mul_div_right _ _ (Nat.pow_pos (by decide)), Nat.div_eq_of_lt h3, Nat.zero_add]
  have e2 : lowS p k 8 = lowS p k m + (q * 256 + byteAt p (8 * k + m)) * 256 ^ m := by
    rw [e, lowS, Nat.pow_succ, Nat.add_mul, Nat.mul_assoc, Nat.mul_comm 256]
    omega
  rw [e1, highS, e2, Nat.add_mul_div_right _ _ hp, Nat.div_eq_of_lt h1, Nat.zero_add]
/-- All bytes of a block mixed in. -/
def absorbS (s : List Ln) (p : List UInt8) : List Ln := tab 25 fun k => if k < 17 then ga s k ^^^ laneS p k 8 else ga s k
/-- The first i bytes mixed in. -/
def absorbT (s : List Ln) (p : List UInt8) (i : Nat) : List Ln := tab 25 fun k => if k < 17 then ga s k ^^^ laneS p k (min 8 (i - 8 * k)) else ga s k
theorem lane_zero (p : List UInt8) (k : Nat) : laneS p k 0 = 0 := rfl
theorem absorb_zero {s : List Ln} (h : s.length = 25) (p : List UInt8) : absorbT s p 0 = s := by
  rw [absorbT]
  refine Eq.trans (tab_congr fun k hk => ?_) (tab_self h)
  rw [show min 8 (0 - 8 * k) = 0 by omega, lane_zero]
  split <;> simp
theorem absorb_all (s : List Ln) (p : List UInt8) : absorbT s p 136 = absorbS s p := by
  refine tab_congr fun k hk => ?_
  by_cases h : k < 17
  · rw [if_pos h, if_pos h, show min 8 (136 - 8 * k) = 8 by omega]
  · rw [if_neg h, if_neg h]
theorem absorb_next (s : List Ln) (p : List UInt8) {i : Nat} (h : i < 136) :
    (absorbT s p i).set (i / 8) (ga (absorbT s p i) (i / 8) ^^^ BitVec.ofNat 64 (byteAt p i * 2 ^ (i % 8 * 8))) = absorbT s p (i + 1) := by
  have e : ga (absorbT s p i) (i / 8) = ga s (i / 8) ^^^ laneS p (i / 8) (i % 8) := by
    rw [absorbT, ga_tab _ (by omega), if_pos (by omega), show min 8 (i - 8 * (i / 8)) = i % 8 by omega]
  have h8 := lane_next p (i / 8) (m := i % 8) (by omega)
  rw [show 8 * (i / 8) + i % 8 = i by omega, Nat.mul_comm 8] at h8
  rw [e, BitVec.xor_assoc, h8, absorbT, tab_set, absorbT]
  refine tab_congr fun k hk => ?_
  by_cases h1 : k = i / 8
  · subst h1
    rw [if_pos rfl, if_pos (by omega), show min 8 (i + 1 - 8 * (i / 8)) = i % 8 + 1 by omega]
  · rw [if_neg h1]
    by_cases h2 : k < 17
    · rw [if_pos h2, if_pos h2, show min 8 (i - 8 * k) = min 8 (i + 1 - 8 * k) by omega]
    · rw [if_neg h2, if_neg h2]
/-- Block by block. -/
def spS (p : List UInt8) : Nat → List Ln
  | 0 => List.replicate 25 0
  | n + 1 => stirsS (absorbS (spS p n) (p.drop (136 * n))) 24
theorem sp_len (p : List UInt8) : ∀ n, (spS p n).length = 25
  | 0 => rfl
  | n + 1 => by rw [spS]; exact stirs_len (tab_len _ _) 24
def padS (b : List UInt8) : List UInt8 :=
  let z := b ++ [6] ++ List.replicate (135 - b.length % 136) 0
  z.set (z.length - 1) (z.getD (z.length - 1) 0 + 128)
def zeroS : List Ln := List.replicate 25 0
def outS32 (s : List Ln) (n : Nat) : List UInt8 := (List.range n).map fun i => UInt8.ofNat ((ga s (i / 8)).toNat / 2 ^ (i % 8 * 8) % 256)
theorem out_next (s : List Ln) (n : Nat) : outS32 s (n + 1) = outS32 s n ++ [UInt8.ofNat ((ga s (n / 8)).toNat / 2 ^ (n % 8 * 8) % 256)] := by
  rw [outS32, List.range_succ, List.map_append]
  rfl
/-- What a digest is. -/
def digS (b : List UInt8) : List UInt8 := outS32 (spS (padS b) ((padS b).length / 136)) 32
theorem dig_len (b : List UInt8) : (digS b).length = 32 := by simp [digS, outS32]
end Go.Proofs.YteacjkihjeiafaaDoor
namespace Go.Proofs.YteacjkihjeiafaaDoor
open Go.RowKit
set_option linter.unusedVariables false
set_option linter.unusedSimpArgs false

def uv (x : Ln) : Int := (x.toNat : Int)
def iv (x : Ln) : Int := x.toInt
theorem of_nat (x : Ln) : BitVec.ofInt 64 (x.toNat : Int) = x := by rw [BitVec.ofInt_natCast, BitVec.ofNat_toNat, BitVec.setWidth_eq]
theorem uv_of (x : Ln) : BitVec.ofInt 64 (uv x) = x := of_nat x
theorem iv_of (x : Ln) : BitVec.ofInt 64 (iv x) = x := BitVec.ofInt_toInt
theorem wrapU (n : Int) : IntKind.u64.wrap n = uv (BitVec.ofInt 64 n) := by
  rw [IntKind.wrap_u64, uv, BitVec.toNat_ofInt]
  omega
theorem wrapI (n : Int) : IntKind.i64.wrap n = iv (BitVec.ofInt 64 n) := by
  rw [IntKind.wrap_i64, iv, BitVec.toInt_ofInt, Int.bmod_def]
  split <;> omega
theorem uv_xor (a b : Ln) : bits .xor .u64 (uv a) (uv b) = uv (a ^^^ b) := by
  show IntKind.u64.wrap ((BitVec.ofInt 64 (uv a) ^^^ BitVec.ofInt 64 (uv b)).toNat : Int) = _
  rw [uv_of, uv_of, wrapU, of_nat]
theorem uv_and (a b : Ln) : bits .and .u64 (uv a) (uv b) = uv (a &&& b) := by
  show IntKind.u64.wrap ((BitVec.ofInt 64 (uv a) &&& BitVec.ofInt 64 (uv b)).toNat : Int) = _
  rw [uv_of, uv_of, wrapU, of_nat]
theorem uv_or (a b : Ln) : bits .or .u64 (uv a) (uv b) = uv (a ||| b) := by
  show IntKind.u64.wrap ((BitVec.ofInt 64 (uv a) ||| BitVec.ofInt 64 (uv b)).toNat : Int) = _
  rw [uv_of, uv_of, wrapU, of_nat]
theorem uv_ones : (18446744073709551615 : Int) = uv (BitVec.allOnes 64) := rfl
theorem uv_not (a : Ln) : bits .xor .u64 18446744073709551615 (uv a) = uv (~~~a) := by rw [uv_ones, uv_xor, BitVec.allOnes_xor]
theorem iv_xor (a b : Ln) : bits .xor .i64 (iv a) (iv b) = iv (a ^^^ b) := by
  show IntKind.i64.wrap ((BitVec.ofInt 64 (iv a) ^^^ BitVec.ofInt 64 (iv b)).toNat : Int) = _
  rw [iv_of, iv_of, wrapI, of_nat]
theorem iv_and (a b : Ln) : bits .and .i64 (iv a) (iv b) = iv (a &&& b) := by
  show IntKind.i64.wrap ((BitVec.ofInt 64 (iv a) &&& BitVec.ofInt 64 (iv b)).toNat : Int) = _
  rw [iv_of, iv_of, wrapI, of_nat]
theorem iv_or (a b : Ln) : bits .or .i64 (iv a) (iv b) = iv (a ||| b) := by
  show IntKind.i64.wrap ((BitVec.ofInt 64 (iv a) ||| BitVec.ofInt 64 (iv b)).toNat : Int) = _
  rw [iv_of, iv_of, wrapI, of_nat]
theorem uv_shl (x : Ln) {n : Nat} (h : n ≤ 64) : IntKind.u64.wrap (uv x * 2 ^ min n 64) = uv (x <<< n) := by
  rw [wrapU, Nat.min_eq_left h]
  congr 1
  apply BitVec.eq_of_toNat_eq
  rw [BitVec.toNat_ofInt, BitVec.toNat_shiftLeft, Nat.shiftLeft_eq, uv]
  have : ((x.toNat : Int) * 2 ^ n) = ((x.toNat * 2 ^ n : Nat) : Int) := by simp
  rw [this]
  omega
theorem uv_shr (x : Ln) {n : Nat} (h : n ≤ 64) : uv x / 2 ^ min n 64 = uv (x >>> n) := by
  rw [Nat.min_eq_left h, uv, uv, BitVec.toNat_ushiftRight, Nat.shiftRight_eq_div_pow]
  simp
theorem iv_shr (x : Ln) {n : Nat} (h : n ≤ 64) : iv x / 2 ^ min n 64 = iv (x.sshiftRight n) := by
  rw [Nat.min_eq_left h, iv, iv, BitVec.toInt_sshiftRight, Int.shiftRight_eq_div_pow]
  simp
theorem iv_add (a b : Ln) : IntKind.i64.wrap (iv a + iv b) = iv (a + b) := by rw [wrapI, BitVec.ofInt_add, iv_of, iv_of]
theorem iv_mul (a b : Ln) : IntKind.i64.wrap (iv a * iv b) = iv (a * b) := by rw [wrapI, BitVec.ofInt_mul, iv_of, iv_of]
theorem iv_not (a : Ln) : IntKind.i64.wrap (-1 - iv a) = iv (~~~a) := by
  rw [wrapI]
  congr 1
  have e : BitVec.ofInt 64 (-1 - iv a) = BitVec.ofInt 64 (-1) + -(BitVec.ofInt 64 (iv a)) := by rw [Int.sub_eq_add_neg, BitVec.ofInt_add, ← BitVec.ofInt_neg (n := iv a)]
  rw [e, iv_of, BitVec.not_eq_neg_add, BitVec.sub_eq_add_neg, BitVec.add_comm]
  rfl
/-- Two to the n. -/
def pw (n : Nat) : Ln := BitVec.ofNat 64 (2 ^ n)
theorem pw_zero : (1 : Int) = iv (pw 0) := rfl
theorem pw_next (n : Nat) : IntKind.i64.wrap (iv (pw n) + iv (pw n)) = iv (pw (n + 1)) := by
  rw [iv_add, pw, pw, ← BitVec.ofNat_add, Nat.pow_succ, Nat.mul_two]
theorem pw_less {n : Nat} : IntKind.i64.wrap (iv (pw n) - 1) = iv (BitVec.ofNat 64 (2 ^ n - 1)) := by
  rw [wrapI]
  congr 1
  rw [Int.sub_eq_add_neg, BitVec.ofInt_add, iv_of, pw]
  apply BitVec.eq_of_toNat_eq
  have : 0 < 2 ^ n := Nat.pow_pos (by decide)
  rw [BitVec.toNat_add, BitVec.toNat_ofNat, BitVec.toNat_ofNat]
  have e : (BitVec.ofInt 64 (-1)).toNat = 18446744073709551615 := by decide
  rw [e]
  omega
theorem mul_pw (x : Ln) (n : Nat) : IntKind.i64.wrap (iv x * iv (pw n)) = iv (x <<< n) := by
  rw [iv_mul]
  congr 1
  apply BitVec.eq_of_toNat_eq
  rw [pw, BitVec.toNat_mul, BitVec.toNat_ofNat, BitVec.toNat_shiftLeft, Nat.shiftLeft_eq, Nat.mul_mod_mod]
theorem high_bits (x : Ln) {n : Nat} (h : n < 64) : x.sshiftRight (64 - n) &&& BitVec.ofNat 64 (2 ^ n - 1) = x >>> (64 - n) := by
  apply BitVec.eq_of_getLsbD_eq
  intro i hi
  rw [BitVec.getLsbD_and, BitVec.getLsbD_ofNat, Nat.testBit_two_pow_sub_one, BitVec.getLsbD_sshiftRight, BitVec.getLsbD_ushiftRight]
  by_cases h1 : i < n
  · have h2 : 64 - n + i < 64 := by omega
    have h3 : ¬ 64 ≤ i := by omega
    simp [h1, h2, h3, hi]
  · have h2 : 64 ≤ 64 - n + i := by omega
    have : x.getLsbD (64 - n + i) = false := BitVec.getLsbD_of_ge x _ h2
    simp [h1, this]
theorem turned_bits (x : Ln) {n : Nat} (h : n < 64) : bits .or .i64 (IntKind.i64.wrap (iv x * iv (pw n))) (bits .and .i64 (iv x / 2 ^ min (64 - n) 64) (IntKind.i64.wrap (iv (pw n) - 1))) = iv (rotl x n) := by
  rw [mul_pw, iv_shr x (by omega), pw_less, iv_and, iv_or, high_bits x h, rotl]
theorem turned_bits' (x : Ln) {n : Nat} (h : n < 64) : bits .or .i64 (IntKind.i64.wrap (iv x * iv (pw n))) (bits .and .i64 (iv x / 2 ^ (64 - n)) (IntKind.i64.wrap (iv (pw n) - 1))) = iv (rotl x n) := by
  have := turned_bits x h
  rw [Nat.min_eq_left (by omega)] at this
  exact this
theorem turn_bits (x : Ln) {n : Nat} (h : n ≤ 64) : bits .or .u64 (IntKind.u64.wrap (uv x * 2 ^ min n 64)) (uv x / 2 ^ min (64 - n) 64) = uv (rotl x n) := by
  rw [uv_shl x h, uv_shr x (by omega), uv_or, rotl]
theorem rotl_zero (x : Ln) : rotl x 0 = x := by
  unfold rotl
  have : x >>> (64 - 0) = 0#64 := by
    apply BitVec.eq_of_toNat_eq
    rw [BitVec.toNat_ushiftRight, Nat.shiftRight_eq_div_pow]
    exact Nat.div_eq_of_lt x.isLt
  rw [this]
  simp
/-! ### bytes -/
theorem byte_shl (b : UInt8) {s : Nat} (h : s ≤ 64) : IntKind.u64.wrap ((b.toNat : Int) * 2 ^ min s 64) = uv (BitVec.ofNat 64 (b.toNat * 2 ^ s)) := by
  rw [wrapU, Nat.min_eq_left h]
  congr 1
theorem byte_shr (x : Ln) {s : Nat} (h : s ≤ 64) : IntKind.u8.wrap (uv x / 2 ^ min s 64) = ((UInt8.ofNat (x.toNat / 2 ^ s % 256)).toNat : Int) := by
  rw [Nat.min_eq_left h, uv, IntKind.wrap_u8]
  have : ((x.toNat : Int) / 2 ^ s) = ((x.toNat / 2 ^ s : Nat) : Int) := by simp
  rw [this, UInt8.toNat_ofNat']
  omega
theorem lane_shift (h b : Nat) : IntKind.i64.wrap (IntKind.i64.wrap (iv (BitVec.ofNat 64 h) * 256) + (b : Int)) = iv (BitVec.ofNat 64 (h * 256 + b)) := by
  have e1 : (256 : Int) = iv (BitVec.ofNat 64 256) := rfl
  rw [e1, iv_mul, ← BitVec.ofNat_mul, wrapI, BitVec.ofInt_add, iv_of, BitVec.ofInt_natCast, ← BitVec.ofNat_add]
theorem iv_range (x : Ln) : -9223372036854775808 ≤ iv x ∧ iv x < 9223372036854775808 := by
  have h1 := BitVec.le_toInt x
  have h2 := BitVec.toInt_lt (x := x)
  unfold iv
  simp at h1 h2
  omega
theorem and255 (v : Int) : bits .and .i64 v 255 = v % 256 := by
  show IntKind.i64.wrap ((BitVec.ofInt 64 v &&& BitVec.ofInt 64 255).toNat : Int) = _
  have e : (BitVec.ofInt 64 255).toNat = 2 ^ 8 - 1 := by decide
  rw [BitVec.toNat_and, e, Nat.and_two_pow_sub_one_eq_mod, BitVec.toNat_ofInt, IntKind.wrap_i64]
  omega
/-- Byte k of a lane, by its value with a sign. -/
theorem lane_byte (x : Ln) {k : Nat} (h : k < 8) : IntKind.u8.wrap (iv x / 256 ^ k % 256) = ((UInt8.ofNat (x.toNat / 2 ^ (k * 8) % 256)).toNat : Int) := by
  rw [IntKind.wrap_u8, UInt8.toNat_ofNat', iv, BitVec.toInt_eq_toNat_cond]
  have := x.isLt
  have hk : k = 0 ∨ k = 1 ∨ k = 2 ∨ k = 3 ∨ k = 4 ∨ k = 5 ∨ k = 6 ∨ k = 7 := by omega
  rcases hk with rfl | rfl | rfl | rfl | rfl | rfl | rfl | rfl <;> split <;> simp only [Nat.reducePow, Nat.reduceMul, Int.reducePow] <;> omega
end Go.Proofs.YteacjkihjeiafaaDoor
namespace Go.Proofs.YteacjkihjeiafaaDoor
open Go.RowKit
set_option linter.unusedVariables false
set_option linter.unusedSimpArgs false

/-- The cells of lanes without a sign. -/
def uc (l : List Ln) : List Value := l.map fun x => Value.int .u64 (uv x)
theorem uc_len (l : List Ln) : (uc l).length = l.length := by simp [uc]
theorem uc_set (l : List Ln) (i : Nat) (x : Ln) : (uc l).toArray.setIfInBounds i (.int .u64 (uv x)) = (uc (l.set i x)).toArray := by
  unfold uc
  rw [List.setIfInBounds_toArray, List.map_set]
theorem uc_get (l : List Ln) {k : Nat} (hk : k < l.length) : (uc l)[k]? = some (.int .u64 (uv (ga l k))) := by
  unfold uc
  rw [List.getElem?_map, List.getElem?_eq_getElem hk, ga, List.getD_eq_getElem?_getD, List.getElem?_eq_getElem hk]
  rfl
theorem uc_cell {w : World} {g : Nat} {t : TypeId} {l : List Ln} (h : w.heap[g]? = some (.cells (uc l).toArray t (0, 0))) {k : Nat} (hk : k < l.length) : w.cell? ⟨g, k, none⟩ = some (.int .u64 (uv (ga l k))) := by
  rw [box_cell (cs := uc l) h k, uc_get l hk]
theorem uc_free {w : World} {g : Nat} {t : TypeId} {l : List Ln} (h : w.heap[g]? = some (.cells (uc l).toArray t (0, 0))) (k : Nat) : w.frozen? ⟨g, k, none⟩ = false := box_frozen (cs := uc l) h k
/-- The tables of the digest lie in their variables. -/
structure TabsAt (w : World) : Prop where
  rounds : ∀ k, k < 24 → w.cell? ⟨2, k, none⟩ = some (.int .u64 (uv (rcS k)))
  goes : w.rangeAt 0 0 (goesT.map fun (n : Nat) => Value.int .i64 (n : Int))
  turns : ∀ k, k < 24 → w.cell? ⟨1, k, none⟩ = some (.int .i64 (tnS k : Nat))
theorem TabsAt.bsame {S : Nat → Prop} {w w' : World} (h : TabsAt w) (hb : Same S w w') (hS : S 2 ∧ S 0 ∧ S 1) : TabsAt w' :=
  ⟨fun k hk => (hb.cell hS.1 (World.block_lt_of_cell? w _ (h.rounds k hk))).trans (h.rounds k hk), fun j v hv => (hb.cell hS.2.1 (World.block_lt_of_cell? w _ (h.goes j v hv))).trans (h.goes j v hv), fun k hk => (hb.cell hS.2.2 (World.block_lt_of_cell? w _ (h.turns k hk))).trans (h.turns k hk)⟩
theorem TabsAt.below {w w' : World} (h : TabsAt w) (hb : Below w.heap.size w w') : TabsAt w' :=
  ⟨fun k hk => (hb.cell (World.block_lt_of_cell? w _ (h.rounds k hk))).trans (h.rounds k hk), fun j v hv => (hb.cell (World.block_lt_of_cell? w _ (h.goes j v hv))).trans (h.goes j v hv), fun k hk => (hb.cell (World.block_lt_of_cell? w _ (h.turns k hk))).trans (h.turns k hk)⟩
/-! ### plain laws of stir's parts -/
/-- Columns so far. -/
def colsT (s : List Ln) (n : Nat) : List Ln := (List.range 5).map fun x => if x < n then colS s x else 0
theorem cols_set (s : List Ln) {n : Nat} (h : n < 5) : (colsT s n).set n (colS s n) = colsT s (n + 1) := by
  have e : ∀ n, colsT s n = tab 5 fun x => if x < n then colS s x else 0 := fun _ => rfl
  rw [e, e, tab_set]
  refine tab_congr fun k hk => ?_
  by_cases h1 : k = n
  · subst h1; rw [if_pos rfl, if_pos (by omega)]
  · rw [if_neg h1]
    by_cases h2 : k < n
    · rw [if_pos h2, if_pos (by omega)]
    · rw [if_neg h2, if_neg (by omega)]
theorem cols_ga (s : List Ln) {x : Nat} (h : x < 5) : ga (colsT s 5) x = colS s x := by
  have e : colsT s 5 = tab 5 fun x => if x < 5 then colS s x else 0 := rfl
  rw [e, ga_tab _ h, if_pos h]
theorem cols_len (s : List Ln) (n : Nat) : (colsT s n).length = 5 := by simp [colsT]
def thetaT (s : List Ln) (i : Nat) : List Ln := upto 25 (thetaS s) s i
def chiT (s : List Ln) (i : Nat) : List Ln := upto 25 (chiS s) s i
theorem moves_last (s : List Ln) {i : Nat} (h : i < 24) : ga (movesT s s i) (goS i) = ga s (srcS (i + 1)) := by
  rw [moves_old s s h, srcS, if_neg (by omega), Nat.add_sub_cancel]
end Go.Proofs.YteacjkihjeiafaaDoor
namespace Go.Proofs.YteacjkihjeiafaaDoor
open Go.RowKit
set_option linter.unusedVariables false
set_option linter.unusedSimpArgs false

/-! ### rows of the call's own -/
theorem own_some {w : World} {base : Nat} {e : TypeId} {size : Nat} {v : Value} {n : Nat} {xs : List Value} (h : w.ownsRow base e size v n xs) (hn : 0 < n) :
    ∃ g cap, v = .slice (some ⟨g, 0, none⟩) n cap ∧ base ≤ g ∧ g < w.heap.size ∧ n ≤ cap := by
  rcases h.2 with ⟨_, h0⟩ | ⟨g, cap, cur, rfl, hge, hh, hcap, _⟩
  · omega
  · exact ⟨g, cap, rfl, hge, (Array.getElem?_eq_some_iff.1 hh).1, hcap⟩
theorem own_blk {w w' : World} {base : Nat} {e : TypeId} {size g n cap : Nat} {xs : List Value} (h : w.ownsRow base e size (.slice (some ⟨g, 0, none⟩) n cap) n xs) (hb : w'.heap[g]? = w.heap[g]?) : w'.ownsRow base e size (.slice (some ⟨g, 0, none⟩) n cap) n xs := by
  refine ⟨h.1, ?_⟩
  rcases h.2 with h0 | ⟨g', cap', cur, he, hge, hh, rest⟩
  · exact .inl h0
  · simp only [Value.slice.injEq, Option.some.injEq, Addr.mk.injEq, and_true, true_and] at he
    obtain ⟨rfl, rfl⟩ := he
    exact .inr ⟨g, cap, cur, rfl, hge, hb.trans hh, rest⟩
def lenOf : Value → Nat
  | .slice _ n _ => n
  | _ => 0
theorem own_slice {w : World} {base : Nat} {e : TypeId} {size : Nat} {v : Value} {n : Nat} {xs : List Value} (h : w.ownsRow base e size v n xs) : ∃ A cap, v = .slice A n cap := by
  rcases h.2 with ⟨rfl, h0⟩ | ⟨g, cap, cur, rfl, _⟩
  · exact ⟨none, 0, by rw [h0]⟩
  · exact ⟨_, cap, rfl⟩
theorem own_base {w : World} {base base' : Nat} {e : TypeId} {size : Nat} {v : Value} {n : Nat} {xs : List Value} (h : w.ownsRow base e size v n xs) (hb : base' ≤ base) : w.ownsRow base' e size v n xs := by
  refine ⟨h.1, ?_⟩
  rcases h.2 with h0 | ⟨g, cap, cur, rfl, hge, rest⟩
  · exact .inl h0
  · exact .inr ⟨g, cap, cur, rfl, Nat.le_trans hb hge, rest⟩
/-! ### the moves -/
def mx (t : Nat) : Nat := srcS t % 5
def my (t : Nat) : Nat := srcS t / 5
theorem mv_facts : ∀ t, t < 24 → mx t < 5 ∧ my t < 5 ∧ mx t + 5 * my t = srcS t ∧ my t + 5 * ((2 * mx t + 3 * my t) % 5) = goS t ∧ mx (t + 1) = my t ∧ my (t + 1) = (2 * mx t + 3 * my t) % 5 ∧ (t + 1) * (t + 2) / 2 % 64 = tnS t := by decide
/-! ### the register -/
def regStep (r : Nat) : Nat := if 255 < 2 * r then (2 * r - 256) ^^^ 113 else 2 * r
def regS : Nat → Nat
  | 0 => 1
  | n + 1 => regStep (regS n)
theorem reg_lt : ∀ n, regS n < 256
  | 0 => by decide
  | n + 1 => by
    have h := reg_lt n
    rw [regS, regStep]
    split
    · exact Nat.xor_lt_two_pow (n := 8) (by omega) (by decide)
    · omega
theorem nat_iv {n : Nat} (h : n < 9223372036854775808) : iv (BitVec.ofNat 64 n) = (n : Int) := by
  rw [iv, BitVec.toInt_eq_toNat_of_lt (by rw [BitVec.toNat_ofNat]; omega), BitVec.toNat_ofNat]
  omega
theorem xor_small {a b : Nat} (ha : a < 256) (hb : b < 256) : bits .xor .i64 (a : Int) (b : Int) = ((a ^^^ b : Nat) : Int) := by
  have hx : a ^^^ b < 2 ^ 8 := Nat.xor_lt_two_pow (n := 8) (by omega) (by omega)
  have e : BitVec.ofNat 64 a ^^^ BitVec.ofNat 64 b = BitVec.ofNat 64 (a ^^^ b) := by
    apply BitVec.eq_of_toNat_eq
    rw [BitVec.toNat_xor, BitVec.toNat_ofNat, BitVec.toNat_ofNat, BitVec.toNat_ofNat, Nat.mod_eq_of_lt (by omega), Nat.mod_eq_of_lt (by omega), Nat.mod_eq_of_lt (by omega)]
  rw [← nat_iv (n := a) (by omega), ← nat_iv (n := b) (by omega), iv_xor, e, nat_iv (by omega)]
/-- What j bits of the register give, from round k's first on. -/
def bitsT (k : Nat) : Nat → Ln
  | 0 => 0
  | j + 1 => if regS (7 * k + j) % 2 = 1 then bitsT k j + pw (2 ^ j - 1) else bitsT k j
theorem bits_rc : ∀ k, k < 24 → bitsT k 7 = rcS k := by decide +kernel
def numsS (n : Nat) : List Ln := (List.range n).map rcS
theorem nums_next (n : Nat) : numsS (n + 1) = numsS n ++ [rcS n] := by
  rw [numsS, List.range_succ, List.map_append]
  rfl
theorem nums_len (n : Nat) : (numsS n).length = n := by simp [numsS]
theorem nums_ga {n k : Nat} (h : k < n) : ga (numsS n) k = rcS k := ga_tab rcS h
/-! ### lanes in -/
def absorbL (s : List Ln) (p : List UInt8) (i : Nat) : List Ln := upto 25 (fun k => ga s k ^^^ laneS p k 8) s i
theorem absorbL_zero {s : List Ln} (h : s.length = 25) (p : List UInt8) : absorbL s p 0 = s := upto_zero _ h
theorem absorbL_next (s : List Ln) (p : List UInt8) {i : Nat} (h : i < 25) : (absorbL s p i).set i (ga (absorbL s p i) i ^^^ laneS p i 8) = absorbL s p (i + 1) := by
  have e : ga (absorbL s p i) i = ga s i := upto_old _ s h (Nat.le_refl _)
  rw [e]
  exact upto_next (fun k => ga s k ^^^ laneS p k 8) s
theorem absorbL_all (s : List Ln) (p : List UInt8) : absorbL s p 17 = absorbS s p := rfl
theorem high_lane (p : List UInt8) (k : Nat) : BitVec.ofNat 64 (highS p k 0) = laneS p k 8 := by rw [high_zero, laneS]
/-! ### bytes out -/
theorem out_div (v : Int) : (v - v % 256).tdiv 256 = v / 256 := by
  have h : v - v % 256 = v / 256 * 256 := by omega
  rw [h, Int.mul_tdiv_cancel _ (by decide)]
theorem out_pow (v : Int) (k : Nat) : v / 256 ^ k / 256 = v / 256 ^ (k + 1) := by
  rw [Int.pow_succ, Int.ediv_ediv_of_nonneg (Int.pow_nonneg (by decide))]
theorem out_range (x : Ln) (k : Nat) : -9223372036854775808 ≤ iv x / 256 ^ k ∧ iv x / 256 ^ k < 9223372036854775808 := by
  have h := iv_range x
  induction k with
  | zero => simpa using h
  | succ k ih => rw [← out_pow]; omega
theorem out_byte (s : List Ln) {i k : Nat} (h : k < 8) : IntKind.u8.wrap (iv (ga s i) / 256 ^ k % 256) = ((UInt8.ofNat ((ga s ((8 * i + k) / 8)).toNat / 2 ^ ((8 * i + k) % 8 * 8) % 256)).toNat : Int) := by
  rw [lane_byte _ h, show (8 * i + k) / 8 = i by omega, show (8 * i + k) % 8 = k by omega]
/-! ### padding -/
/-- n zeros behind the six. -/
def padT (b : List UInt8) (n : Nat) : List UInt8 := b ++ [6] ++ List.replicate n 0
theorem padT_len (b : List UInt8) (n : Nat) : (padT b n).length = b.length + 1 + n := by simp [padT]; omega
theorem padT_next (b : List UInt8) (n : Nat) : padT b n ++ [0] = padT b (n + 1) := by
  rw [padT, padT, List.replicate_succ', List.append_assoc]
theorem pad_eq (b : List UInt8) : padS b = (padT b (135 - b.length % 136)).set ((padT b (135 - b.length % 136)).length - 1) ((padT b (135 - b.length % 136)).getD ((padT b (135 - b.length % 136)).length - 1) 0 + 128) := rfl
theorem pad_len (b : List UInt8) : (padS b).length = b.length + 136 - b.length % 136 := by
  rw [pad_eq, List.length_set, padT_len]
  omega
theorem pad_mod (b : List UInt8) : (padS b).length % 136 = 0 := by rw [pad_len]; omega
theorem pad_blocks (b : List UInt8) : (padS b).length = 136 * ((padS b).length / 136) := by have := pad_mod b; omega
/-- The last of the padding before its high bit: six or zero. -/
theorem pad_last (b : List UInt8) (n : Nat) : (padT b n).getD ((padT b n).length - 1) 0 = if n = 0 then 6 else 0 := by
  cases n with
  | zero =>
    rw [if_pos rfl, padT_len]
    simp [padT]
  | succ n =>
    rw [if_neg (by omega), ← padT_next]
    simp
theorem or128 (b : List UInt8) (n : Nat) : ((padT b n).getD ((padT b n).length - 1) 0) ||| 128 = (padT b n).getD ((padT b n).length - 1) 0 + 128 := by
  rw [pad_last]
  split <;> rfl
end Go.Proofs.YteacjkihjeiafaaDoor
