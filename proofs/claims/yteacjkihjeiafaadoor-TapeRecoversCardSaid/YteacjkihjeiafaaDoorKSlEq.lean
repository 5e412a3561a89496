/- SlEq: Walk: slices.Equal of bytes, at two lists of one length. The conditions of each are in its words. -/
import Derived.Test.YteacjkihjeiafaaDoorKBase
namespace Go.Proofs.YteacjkihjeiafaaDoor
open Go.RowKit
set_option linter.unusedVariables false
set_option linter.unusedSimpArgs false

theorem drewN_two (w : World) (m n : Nat) : (w.drewN m).drewN n = w.drewN (m + n) := by
  simp [World.drewN, Nat.add_assoc]
theorem beq_at {a b : List UInt8} {k : Nat} (h1 : k < a.length) (h2 : k < b.length) (h : a[k] ≠ b[k]) : (a == b) = false := by
  rw [beq_eq_false_iff_ne]
  intro e
  subst e
  exact h rfl
set_option maxRecDepth 100000 in
set_option maxHeartbeats 1000000 in
theorem slEqual_ok (w : World) (A B : Option Addr) (a b : List UInt8) (n c d : Nat) (ha : Bs All w A a) (hb : Bs All w B b) (hn : a.length = n) (hm : b.length = n) (h8 : n ≤ big) :
    Calls Tryd.prog 57 #[.slice A n c, .slice B n d] w (fun e w' => e = .returned (.bool (a == b)) ∧ ∃ m, w' = w.drewN m) := by
  unfold big at h8
  have Ha := Lib.hid ha
  have Hb := Lib.hid hb
  have Hn := Lib.hid hn
  have Hm := Lib.hid hm
  clear ha hb hn hm
  go_enter Tryd.func57, Tryd.ntmps57
  go_wp2
  go_loopw [13] (fun i wr => ∃ k : Nat, k ≤ n ∧ i = .int .i64 k ∧ a.take k = b.take k ∧ ∃ m, wr = w.drewN m) (fun i _ => n - (intOf i).toNat)
  case atStart => exact ⟨0, by omega, rfl, rfl, 0, rfl⟩
  case round =>
    obtain ⟨k, hk, rfl, heq, m, rfl⟩ := hrel
    have Heq := Lib.hid heq
    clear heq
    by_cases hlt : k < n
    · have k1 : k < a.length := by have := Hn.out; omega
      have k2 : k < b.length := by have := Hm.out; omega
      obtain ⟨g, off, rfl, _, hal, hc1⟩ := Ha.out.bat k1
      obtain ⟨g', off', rfl, _, hal', hc2⟩ := Hb.out.bat k2
      have T1 := Lib.hid (take_snoc a k k1)
      have T2 := Lib.hid (take_snoc b k k2)
      have Hne := Lib.hid (beq_at k1 k2)
      have hi0 : (0 : Int) ≤ (k : Int) := by omega
      have hi1 : (k : Int) < (n : Int) := by omega
      generalize a[k] = x at *
      generalize b[k] = y at *
      by_cases hxy : x = y
      · subst hxy
        clear k1 k2
        go_wp2
        go_quiet (fail)
        go_wp2
        go_roundw
        case rel => exact ⟨k + 1, by omega, by go_num, by rw [T1.out, T2.out, Heq.out], (by first | exact ⟨_, rfl⟩ | exact ⟨m + nq, drewN_two w m nq⟩)⟩
        case measure => simp [intOf]; omega
      · have b1 : ((x.toNat : Int) != (y.toNat : Int)) = true := by
          rw [bne_iff_ne]
          intro e
          exact hxy (UInt8.toNat_inj.1 (by exact_mod_cast e))
        have Hv := Lib.hid (Hne.out hxy)
        clear k1 k2 hxy
        go_wp2
        go_quiet (fail)
        go_wp2
        go_ret
        exact ⟨ret_bool Hv.out.symm, (by first | exact ⟨_, rfl⟩ | exact ⟨m + nq, drewN_two w m nq⟩)⟩
    · obtain rfl : k = n := by omega
      have Hv := Lib.hid (show (a == b) = true by
        have h := Heq.out
        rw [List.take_of_length_le (by rw [Hn.out]; omega), List.take_of_length_le (by rw [Hm.out]; omega)] at h
        rw [h]
        exact beq_self_eq_true b)
      go_wp2
      go_ret
      exact ⟨ret_bool Hv.out.symm, m, rfl⟩
end Go.Proofs.YteacjkihjeiafaaDoor
