/- Plain laws of the references' digest: places of lanes, the register of bits, bytes out of lanes. -/
import Derived.Test.YtjgdeeabejoegaaDoorKecV
namespace Go.Proofs.YtjgdeeabejoegaaDoor
open Go.RowKit
set_option linter.unusedVariables false
set_option linter.unusedSimpArgs false

/-! ### rows of the call's own -/
theorem own_some {w : World} {base : Nat} {e : TypeId} {size : Nat} {v : Value} {n : Nat} {xs : List Value} (h : w.ownsRow base e size v n xs) (hn : 0 < n) :
    ∃ g cap, v = .slice (some ⟨g, 0, none⟩) n cap ∧ base ≤ g ∧ g < w.heap.size ∧ n ≤ cap := by
  rcases h.2 with ⟨_, h0⟩ | ⟨g, cap, cur, rfl, hge, hh, hcap, _⟩
  · omega
  · exact ⟨g, cap, rfl, hge, (Array.getElem?_eq_some_iff.1 hh).1, hcap⟩
theorem own_blk {w w' : World} {base : Nat} {e : TypeId} {size g n cap : Nat} {xs : List Value} (h : w.ownsRow base e size (.slice (some ⟨g, 0, none⟩) n cap) n xs) (hb : w'.heap[g]? = w.heap[g]?) : w'.ownsRow base e size (.slice (some ⟨g, 0, none⟩) n cap) n xs := by
  refine ⟨h.1, ?_⟩
  rcases h.2 with h0 | ⟨g', cap', cur, he, hge, hh, rest⟩
  · exact .inl h0
  · simp only [Value.slice.injEq, Option.some.injEq, Addr.mk.injEq, and_true, true_and] at he
    obtain ⟨rfl, rfl⟩ := he
    exact .inr ⟨g, cap, cur, rfl, hge, hb.trans hh, rest⟩
def lenOf : Value → Nat
  | .slice _ n _ => n
  | _ => 0
theorem own_slice {w : World} {base : Nat} {e : TypeId} {size : Nat} {v : Value} {n : Nat} {xs : List Value} (h : w.ownsRow base e size v n xs) : ∃ A cap, v = .slice A n cap := by
  rcases h.2 with ⟨rfl, h0⟩ | ⟨g, cap, cur, rfl, _⟩
  · exact ⟨none, 0, by rw [h0]⟩
  · exact ⟨_, cap, rfl⟩
theorem own_base {w : World} {base base' : Nat} {e : TypeId} {size : Nat} {v : Value} {n : Nat} {xs : List Value} (h : w.ownsRow base e size v n xs) (hb : base' ≤ base) : w.ownsRow base' e size v n xs := by
  refine ⟨h.1, ?_⟩
  rcases h.2 with h0 | ⟨g, cap, cur, rfl, hge, rest⟩
  · exact .inl h0
  · exact .inr ⟨g, cap, cur, rfl, Nat.le_trans hb hge, rest⟩
/-! ### the moves -/
def mx (t : Nat) : Nat := srcS t % 5
def my (t : Nat) : Nat := srcS t / 5
theorem mv_facts : ∀ t, t < 24 → mx t < 5 ∧ my t < 5 ∧ mx t + 5 * my t = srcS t ∧ my t + 5 * ((2 * mx t + 3 * my t) % 5) = goS t ∧ mx (t + 1) = my t ∧ my (t + 1) = (2 * mx t + 3 * my t) % 5 ∧ (t + 1) * (t + 2) / 2 % 64 = tnS t := by decide
/-! ### the register -/
def regStep (r : Nat) : Nat := if 255 < 2 * r then (2 * r - 256) ^^^ 113 else 2 * r
def regS : Nat → Nat
  | 0 => 1
  | n + 1 => regStep (regS n)
theorem reg_lt : ∀ n, regS n < 256
  | 0 => by decide
  | n + 1 => by
    have h := reg_lt n
    rw [regS, regStep]
    split
    · exact Nat.xor_lt_two_pow (n := 8) (by omega) (by decide)
    · omega
theorem nat_iv {n : Nat} (h : n < 9223372036854775808) : iv (BitVec.ofNat 64 n) = (n : Int) := by
  rw [iv, BitVec.toInt_eq_toNat_of_lt (by rw [BitVec.toNat_ofNat]; omega), BitVec.toNat_ofNat]
  omega
theorem xor_small {a b : Nat} (ha : a < 256) (hb : b < 256) : bits .xor .i64 (a : Int) (b : Int) = ((a ^^^ b : Nat) : Int) := by
  have hx : a ^^^ b < 2 ^ 8 := Nat.xor_lt_two_pow (n := 8) (by omega) (by omega)
  have e : BitVec.ofNat 64 a ^^^ BitVec.ofNat 64 b = BitVec.ofNat 64 (a ^^^ b) := by
    apply BitVec.eq_of_toNat_eq
    rw [BitVec.toNat_xor, BitVec.toNat_ofNat, BitVec.toNat_ofNat, BitVec.toNat_ofNat, Nat.mod_eq_of_lt (by omega), Nat.mod_eq_of_lt (by omega), Nat.mod_eq_of_lt (by omega)]
  rw [← nat_iv (n := a) (by omega), ← nat_iv (n := b) (by omega), iv_xor, e, nat_iv (by omega)]
/-- What j bits of the register give, from round k's first on. -/
def bitsT (k : Nat) : Nat → Ln
  | 0 => 0
  | j + 1 => if regS (7 * k + j) % 2 = 1 then bitsT k j + pw (2 ^ j - 1) else bitsT k j
theorem bits_rc : ∀ k, k < 24 → bitsT k 7 = rcS k := by decide +kernel
def numsS (n : Nat) : List Ln := (List.range n).map rcS
theorem nums_next (n : Nat) : numsS (n + 1) = numsS n ++ [rcS n] := by
  rw [numsS, List.range_succ, List.map_append]
  rfl
theorem nums_len (n : Nat) : (numsS n).length = n := by simp [numsS]
theorem nums_ga {n k : Nat} (h : k < n) : ga (numsS n) k = rcS k := ga_tab rcS h
/-! ### lanes in -/
def absorbL (s : List Ln) (p : List UInt8) (i : Nat) : List Ln := upto 25 (fun k => ga s k ^^^ laneS p k 8) s i
theorem absorbL_zero {s : List Ln} (h : s.length = 25) (p : List UInt8) : absorbL s p 0 = s := upto_zero _ h
theorem absorbL_next (s : List Ln) (p : List UInt8) {i : Nat} (h : i < 25) : (absorbL s p i).set i (ga (absorbL s p i) i ^^^ laneS p i 8) = absorbL s p (i + 1) := by
  have e : ga (absorbL s p i) i = ga s i := upto_old _ s h (Nat.le_refl _)
  rw [e]
  exact upto_next (fun k => ga s k ^^^ laneS p k 8) s
theorem absorbL_all (s : List Ln) (p : List UInt8) : absorbL s p 17 = absorbS s p := rfl
theorem high_lane (p : List UInt8) (k : Nat) : BitVec.ofNat 64 (highS p k 0) = laneS p k 8 := by rw [high_zero, laneS]
/-! ### bytes out -/
theorem out_div (v : Int) : (v - v % 256).tdiv 256 = v / 256 := by
  have h : v - v % 256 = v / 256 * 256 := by omega
  rw [h, Int.mul_tdiv_cancel _ (by decide)]
theorem out_pow (v : Int) (k : Nat) : v / 256 ^ k / 256 = v / 256 ^ (k + 1) := by
  rw [Int.pow_succ, Int.ediv_ediv_of_nonneg (Int.pow_nonneg (by decide))]
theorem out_range (x : Ln) (k : Nat) : -9223372036854775808 ≤ iv x / 256 ^ k ∧ iv x / 256 ^ k < 9223372036854775808 := by
  have h := iv_range x
  induction k with
  | zero => simpa using h
  | succ k ih => rw [← out_pow]; omega
theorem out_byte (s : List Ln) {i k : Nat} (h : k < 8) : IntKind.u8.wrap (iv (ga s i) / 256 ^ k % 256) = ((UInt8.ofNat ((ga s ((8 * i + k) / 8)).toNat / 2 ^ ((8 * i + k) % 8 * 8) % 256)).toNat : Int) := by
  rw [lane_byte _ h, show (8 * i + k) / 8 = i by omega, show (8 * i + k) % 8 = k by omega]
/-! ### padding -/
/-- n zeros behind the six. -/
def padT (b : List UInt8) (n : Nat) : List UInt8 := b ++ [6] ++ List.replicate n 0
theorem padT_len (b : List UInt8) (n : Nat) : (padT b n).length = b.length + 1 + n := by simp [padT]; omega
theorem padT_next (b : List UInt8) (n : Nat) : padT b n ++ [0] = padT b (n + 1) := by
  rw [padT, padT, List.replicate_succ', List.append_assoc]
theorem pad_eq (b : List UInt8) : padS b = (padT b (135 - b.length % 136)).set ((padT b (135 - b.length % 136)).length - 1) ((padT b (135 - b.length % 136)).getD ((padT b (135 - b.length % 136)).length - 1) 0 + 128) := rfl
theorem pad_len (b : List UInt8) : (padS b).length = b.length + 136 - b.length % 136 := by
  rw [pad_eq, List.length_set, padT_len]
  omega
theorem pad_mod (b : List UInt8) : (padS b).length % 136 = 0 := by rw [pad_len]; omega
theorem pad_blocks (b : List UInt8) : (padS b).length = 136 * ((padS b).length / 136) := by have := pad_mod b; omega
/-- The last of the padding before its high bit: six or zero. -/
theorem pad_last (b : List UInt8) (n : Nat) : (padT b n).getD ((padT b n).length - 1) 0 = if n = 0 then 6 else 0 := by
  cases n with
  | zero =>
    rw [if_pos rfl, padT_len]
    simp [padT]
  | succ n =>
    rw [if_neg (by omega), ← padT_next]
    simp
theorem or128 (b : List UInt8) (n : Nat) : ((padT b n).getD ((padT b n).length - 1) 0) ||| 128 = (padT b n).getD ((padT b n).length - 1) 0 + 128 := by
  rw [pad_last]
  split <;> rfl
end Go.Proofs.YtjgdeeabejoegaaDoor
