/- Lanes as the model's numbers: without a sign, and with one. -/
import Derived.Test.YtjgdeeabejoegaaDoorKec
import Derived.Test.YtjgdeeabejoegaaDoorCore
namespace Go.Proofs.YtjgdeeabejoegaaDoor
open Go.RowKit
set_option linter.unusedVariables false
set_option linter.unusedSimpArgs false

def uv (x : Ln) : Int := (x.toNat : Int)
def iv (x : Ln) : Int := x.toInt
theorem of_nat (x : Ln) : BitVec.ofInt 64 (x.toNat : Int) = x := by rw [BitVec.ofInt_natCast, BitVec.ofNat_toNat, BitVec.setWidth_eq]
theorem uv_of (x : Ln) : BitVec.ofInt 64 (uv x) = x := of_nat x
theorem iv_of (x : Ln) : BitVec.ofInt 64 (iv x) = x := BitVec.ofInt_toInt
theorem wrapU (n : Int) : IntKind.u64.wrap n = uv (BitVec.ofInt 64 n) := by
  rw [IntKind.wrap_u64, uv, BitVec.toNat_ofInt]
  omega
theorem wrapI (n : Int) : IntKind.i64.wrap n = iv (BitVec.ofInt 64 n) := by
  rw [IntKind.wrap_i64, iv, BitVec.toInt_ofInt, Int.bmod_def]
  split <;> omega
theorem uv_xor (a b : Ln) : bits .xor .u64 (uv a) (uv b) = uv (a ^^^ b) := by
  show IntKind.u64.wrap ((BitVec.ofInt 64 (uv a) ^^^ BitVec.ofInt 64 (uv b)).toNat : Int) = _
  rw [uv_of, uv_of, wrapU, of_nat]
theorem uv_and (a b : Ln) : bits .and .u64 (uv a) (uv b) = uv (a &&& b) := by
  show IntKind.u64.wrap ((BitVec.ofInt 64 (uv a) &&& BitVec.ofInt 64 (uv b)).toNat : Int) = _
  rw [uv_of, uv_of, wrapU, of_nat]
theorem uv_or (a b : Ln) : bits .or .u64 (uv a) (uv b) = uv (a ||| b) := by
  show IntKind.u64.wrap ((BitVec.ofInt 64 (uv a) ||| BitVec.ofInt 64 (uv b)).toNat : Int) = _
  rw [uv_of, uv_of, wrapU, of_nat]
theorem uv_ones : (18446744073709551615 : Int) = uv (BitVec.allOnes 64) := rfl
theorem uv_not (a : Ln) : bits .xor .u64 18446744073709551615 (uv a) = uv (~~~a) := by rw [uv_ones, uv_xor, BitVec.allOnes_xor]
theorem iv_xor (a b : Ln) : bits .xor .i64 (iv a) (iv b) = iv (a ^^^ b) := by
  show IntKind.i64.wrap ((BitVec.ofInt 64 (iv a) ^^^ BitVec.ofInt 64 (iv b)).toNat : Int) = _
  rw [iv_of, iv_of, wrapI, of_nat]
theorem iv_and (a b : Ln) : bits .and .i64 (iv a) (iv b) = iv (a &&& b) := by
  show IntKind.i64.wrap ((BitVec.ofInt 64 (iv a) &&& BitVec.ofInt 64 (iv b)).toNat : Int) = _
  rw [iv_of, iv_of, wrapI, of_nat]
theorem iv_or (a b : Ln) : bits .or .i64 (iv a) (iv b) = iv (a ||| b) := by
  show IntKind.i64.wrap ((BitVec.ofInt 64 (iv a) ||| BitVec.ofInt 64 (iv b)).toNat : Int) = _
  rw [iv_of, iv_of, wrapI, of_nat]
theorem uv_shl (x : Ln) {n : Nat} (h : n ≤ 64) : IntKind.u64.wrap (uv x * 2 ^ min n 64) = uv (x <<< n) := by
  rw [wrapU, Nat.min_eq_left h]
  congr 1
  apply BitVec.eq_of_toNat_eq
  rw [BitVec.toNat_ofInt, BitVec.toNat_shiftLeft, Nat.shiftLeft_eq, uv]
  have : ((x.toNat : Int) * 2 ^ n) = ((x.toNat * 2 ^ n : Nat) : Int) := by simp
  rw [this]
  omega
theorem uv_shr (x : Ln) {n : Nat} (h : n ≤ 64) : uv x / 2 ^ min n 64 = uv (x >>> n) := by
  rw [Nat.min_eq_left h, uv, uv, BitVec.toNat_ushiftRight, Nat.shiftRight_eq_div_pow]
  simp
theorem iv_shr (x : Ln) {n : Nat} (h : n ≤ 64) : iv x / 2 ^ min n 64 = iv (x.sshiftRight n) := by
  rw [Nat.min_eq_left h, iv, iv, BitVec.toInt_sshiftRight, Int.shiftRight_eq_div_pow]
  simp
theorem iv_add (a b : Ln) : IntKind.i64.wrap (iv a + iv b) = iv (a + b) := by rw [wrapI, BitVec.ofInt_add, iv_of, iv_of]
theorem iv_mul (a b : Ln) : IntKind.i64.wrap (iv a * iv b) = iv (a * b) := by rw [wrapI, BitVec.ofInt_mul, iv_of, iv_of]
theorem iv_not (a : Ln) : IntKind.i64.wrap (-1 - iv a) = iv (~~~a) := by
  rw [wrapI]
  congr 1
  have e : BitVec.ofInt 64 (-1 - iv a) = BitVec.ofInt 64 (-1) + -(BitVec.ofInt 64 (iv a)) := by rw [Int.sub_eq_add_neg, BitVec.ofInt_add, ← BitVec.ofInt_neg (n := iv a)]
  rw [e, iv_of, BitVec.not_eq_neg_add, BitVec.sub_eq_add_neg, BitVec.add_comm]
  rfl
/-- Two to the n. -/
def pw (n : Nat) : Ln := BitVec.ofNat 64 (2 ^ n)
theorem pw_zero : (1 : Int) = iv (pw 0) := rfl
theorem pw_next (n : Nat) : IntKind.i64.wrap (iv (pw n) + iv (pw n)) = iv (pw (n + 1)) := by
  rw [iv_add, pw, pw, ← BitVec.ofNat_add, Nat.pow_succ, Nat.mul_two]
theorem pw_less {n : Nat} : IntKind.i64.wrap (iv (pw n) - 1) = iv (BitVec.ofNat 64 (2 ^ n - 1)) := by
  rw [wrapI]
  congr 1
  rw [Int.sub_eq_add_neg, BitVec.ofInt_add, iv_of, pw]
  apply BitVec.eq_of_toNat_eq
  have : 0 < 2 ^ n := Nat.pow_pos (by decide)
  rw [BitVec.toNat_add, BitVec.toNat_ofNat, BitVec.toNat_ofNat]
  have e : (BitVec.ofInt 64 (-1)).toNat = 18446744073709551615 := by decide
  rw [e]
  omega
theorem mul_pw (x : Ln) (n : Nat) : IntKind.i64.wrap (iv x * iv (pw n)) = iv (x <<< n) := by
  rw [iv_mul]
  congr 1
  apply BitVec.eq_of_toNat_eq
  rw [pw, BitVec.toNat_mul, BitVec.toNat_ofNat, BitVec.toNat_shiftLeft, Nat.shiftLeft_eq, Nat.mul_mod_mod]
theorem high_bits (x : Ln) {n : Nat} (h : n < 64) : x.sshiftRight (64 - n) &&& BitVec.ofNat 64 (2 ^ n - 1) = x >>> (64 - n) := by
  apply BitVec.eq_of_getLsbD_eq
  intro i hi
  rw [BitVec.getLsbD_and, BitVec.getLsbD_ofNat, Nat.testBit_two_pow_sub_one, BitVec.getLsbD_sshiftRight, BitVec.getLsbD_ushiftRight]
  by_cases h1 : i < n
  · have h2 : 64 - n + i < 64 := by omega
    have h3 : ¬ 64 ≤ i := by omega
    simp [h1, h2, h3, hi]
  · have h2 : 64 ≤ 64 - n + i := by omega
    have : x.getLsbD (64 - n + i) = false := BitVec.getLsbD_of_ge x _ h2
    simp [h1, this]
theorem turned_bits (x : Ln) {n : Nat} (h : n < 64) : bits .or .i64 (IntKind.i64.wrap (iv x * iv (pw n))) (bits .and .i64 (iv x / 2 ^ min (64 - n) 64) (IntKind.i64.wrap (iv (pw n) - 1))) = iv (rotl x n) := by
  rw [mul_pw, iv_shr x (by omega), pw_less, iv_and, iv_or, high_bits x h, rotl]
theorem turned_bits' (x : Ln) {n : Nat} (h : n < 64) : bits .or .i64 (IntKind.i64.wrap (iv x * iv (pw n))) (bits .and .i64 (iv x / 2 ^ (64 - n)) (IntKind.i64.wrap (iv (pw n) - 1))) = iv (rotl x n) := by
  have := turned_bits x h
  rw [Nat.min_eq_left (by omega)] at this
  exact this
theorem turn_bits (x : Ln) {n : Nat} (h : n ≤ 64) : bits .or .u64 (IntKind.u64.wrap (uv x * 2 ^ min n 64)) (uv x / 2 ^ min (64 - n) 64) = uv (rotl x n) := by
  rw [uv_shl x h, uv_shr x (by omega), uv_or, rotl]
theorem rotl_zero (x : Ln) : rotl x 0 = x := by
  unfold rotl
  have : x >>> (64 - 0) = 0#64 := by
    apply BitVec.eq_of_toNat_eq
    rw [BitVec.toNat_ushiftRight, Nat.shiftRight_eq_div_pow]
    exact Nat.div_eq_of_lt x.isLt
  rw [this]
  simp
/-! ### bytes -/
theorem byte_shl (b : UInt8) {s : Nat} (h : s ≤ 64) : IntKind.u64.wrap ((b.toNat : Int) * 2 ^ min s 64) = uv (BitVec.ofNat 64 (b.toNat * 2 ^ s)) := by
  rw [wrapU, Nat.min_eq_left h]
  congr 1
theorem byte_shr (x : Ln) {s : Nat} (h : s ≤ 64) : IntKind.u8.wrap (uv x / 2 ^ min s 64) = ((UInt8.ofNat (x.toNat / 2 ^ s % 256)).toNat : Int) := by
  rw [Nat.min_eq_left h, uv, IntKind.wrap_u8]
  have : ((x.toNat : Int) / 2 ^ s) = ((x.toNat / 2 ^ s : Nat) : Int) := by simp
  rw [this, UInt8.toNat_ofNat']
  omega
theorem lane_shift (h b : Nat) : IntKind.i64.wrap (IntKind.i64.wrap (iv (BitVec.ofNat 64 h) * 256) + (b : Int)) = iv (BitVec.ofNat 64 (h * 256 + b)) := by
  have e1 : (256 : Int) = iv (BitVec.ofNat 64 256) := rfl
  rw [e1, iv_mul, ← BitVec.ofNat_mul, wrapI, BitVec.ofInt_add, iv_of, BitVec.ofInt_natCast, ← BitVec.ofNat_add]
theorem iv_range (x : Ln) : -9223372036854775808 ≤ iv x ∧ iv x < 9223372036854775808 := by
  have h1 := BitVec.le_toInt x
  have h2 := BitVec.toInt_lt (x := x)
  unfold iv
  simp at h1 h2
  omega
theorem and255 (v : Int) : bits .and .i64 v 255 = v % 256 := by
  show IntKind.i64.wrap ((BitVec.ofInt 64 v &&& BitVec.ofInt 64 255).toNat : Int) = _
  have e : (BitVec.ofInt 64 255).toNat = 2 ^ 8 - 1 := by decide
  rw [BitVec.toNat_and, e, Nat.and_two_pow_sub_one_eq_mod, BitVec.toNat_ofInt, IntKind.wrap_i64]
  omega
/-- Byte k of a lane, by its value with a sign. -/
theorem lane_byte (x : Ln) {k : Nat} (h : k < 8) : IntKind.u8.wrap (iv x / 256 ^ k % 256) = ((UInt8.ofNat (x.toNat / 2 ^ (k * 8) % 256)).toNat : Int) := by
  rw [IntKind.wrap_u8, UInt8.toNat_ofNat', iv, BitVec.toInt_eq_toNat_cond]
  have := x.isLt
  have hk : k = 0 ∨ k = 1 ∨ k = 2 ∨ k = 3 ∨ k = 4 ∨ k = 5 ∨ k = 6 ∨ k = 7 := by omega
  rcases hk with rfl | rfl | rfl | rfl | rfl | rfl | rfl | rfl <;> split <;> simp only [Nat.reducePow, Nat.reduceMul, Int.reducePow] <;> omega
end Go.Proofs.YtjgdeeabejoegaaDoor
