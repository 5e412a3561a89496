/- Walks of PathChecks, ForestNames, HistoryKepts. -/
import Derived.Test.YtdhbnhjgbcipkaaKeyLaws
import Derived.OpenShut
namespace Go.Proofs.Ytdhbnhjgbcipkaa
open Go.RowKit
set_option maxHeartbeats 400000 in
theorem pathChecks_walk (w : World) {A : Option Addr} {l : List UInt8} {c : Nat} (h : Bs All w A l ∧ l.length ≤ big) :
    Calls Try.prog 5 #[.slice A l.length c] w (RetV w (.bool true)) := by
  have H := Lib.hid h
  clear h
  go_enter Try.func5, Try.ntmps5
  go_wp2_with (first
    | (go_at_call 16; refine (octets_ok _ A l c H.out.1 H.out.2).mono ?_; rintro e w1 ⟨A1, c1, rfl, hs1, hb1⟩)
    | (go_at_call 15; refine (pathCheck_ok _ A1 l c1).mono ?_; rintro e w2 ⟨rfl, rfl⟩)
    | (go_at_call 17; refine (keyFault_ok _ A l c).mono ?_; rintro e w3 ⟨rfl, rfl⟩))
  go_ret
  exact ⟨by simp, hb1⟩
set_option maxHeartbeats 400000 in
theorem forestNames_walk (w : World) {A : Option Addr} {l : List UInt8} {c : Nat} (h : Bs All w A l ∧ l.length ≤ big) :
    Calls Try.prog 6 #[.slice A l.length c] w (RetV w (.bool true)) := by
  have H := Lib.hid h
  clear h
  go_enter Try.func6, Try.ntmps6
  go_wp2_with (first
    | (go_at_call 16; refine (octets_ok _ A l c H.out.1 H.out.2).mono ?_; rintro e w1 ⟨A1, c1, rfl, hs1, hb1⟩)
    | (go_at_call 18; refine (forestName_ok _ A1 l c1).mono ?_; rintro e w2 ⟨rfl, rfl⟩)
    | (go_at_call 19; refine (nameFault_ok _ A l c).mono ?_; rintro e w3 ⟨rfl, rfl⟩))
  go_ret
  exact ⟨by simp, hb1⟩

/-- What Kept and KeptAt answer. -/
def keptS (n t : Int) : Bool := decide (0 ≤ t ∧ t ≤ n ∧ n - t < 6)
set_option maxHeartbeats 400000 in
theorem kept_ok (w : World) (n t : Int) (hn : n ≤ 9223372036854775807) :
    Calls Try.prog 13 #[.int .i64 n, .int .i64 t] w fun e w' => e = .returned (.bool (keptS n t)) ∧ w = w' := by
  have hn' : n ≤ 9223372036854775807 := hn
  clear hn
  rcases (by omega : t < 0 ∨ (0 ≤ t ∧ n < t) ∨ (0 ≤ t ∧ t ≤ n ∧ n - t < 6) ∨ (0 ≤ t ∧ t ≤ n ∧ ¬ n - t < 6)) with h | ⟨h, h'⟩ | ⟨h, h', h''⟩ | ⟨h, h', h''⟩
  all_goals
    go_enter Try.func13, Try.ntmps13
    go_wp2
    go_ret
    exact ⟨ret_bool (by unfold keptS; symm; first | exact decide_eq_true (by omega) | exact decide_eq_false (by omega)), rfl⟩
set_option maxHeartbeats 400000 in
theorem keptAt_ok (w : World) (n t : Int) (hn : n ≤ 9223372036854775807) :
    Calls Try.prog 14 #[.int .i64 n, .int .i64 t] w fun e w' => e = .returned (.bool (keptS n t)) ∧ w = w' := by
  rcases (by omega : t < 0 ∨ (0 ≤ t ∧ n < t) ∨ (0 ≤ t ∧ t ≤ n)) with h | ⟨h, h'⟩ | ⟨h, h'⟩
  · go_enter Try.func14, Try.ntmps14
    go_wp2
    go_ret
    exact ⟨ret_bool (by unfold keptS; symm; exact decide_eq_false (by omega)), rfl⟩
  · go_enter Try.func14, Try.ntmps14
    go_wp2
    go_ret
    exact ⟨ret_bool (by unfold keptS; symm; exact decide_eq_false (by omega)), rfl⟩
  · have b1 : decide (t < 0) = false := by simp; omega
    have b2 : decide (n < t) = false := by simp; omega
    go_enter Try.func14, Try.ntmps14
    go_wp2
    clear b1 b2
    go_loop [5] (fun i => ∃ k : Nat, k ≤ 6 ∧ i = .int .i64 k ∧ ∀ j : Nat, j < k → n - j ≠ t) (fun i => 6 - (intOf i).toNat)
    case atStart => exact ⟨0, by omega, rfl, fun j hj => absurd hj (by omega)⟩
    case round =>
      obtain ⟨k, hk, rfl, hno⟩ := hrel
      have Hno := Lib.hid hno
      clear hno
      by_cases hlt : k < 6
      · by_cases he : n - k = t
        · have b3 : (n - (k : Int) == t) = true := by simpa using he
          have He := Lib.hid he
          clear he
          go_wp2
          go_ret
          have := He.out
          exact ⟨ret_bool (by unfold keptS; symm; exact decide_eq_true (by omega)), rfl⟩
        · have b3 : (n - (k : Int) == t) = false := by simpa using he
          have He := Lib.hid he
          clear he
          go_wp2
          go_round
          case rel => exact ⟨k + 1, by omega, by go_num, fun j hj => by rcases (by omega : j < k ∨ j = k) with h1 | h1; exact Hno.out j h1; subst h1; exact He.out⟩
          case measure => simp [intOf]; omega
      · go_wp2
        go_ret
        have h0 := Hno.out
        exact ⟨ret_bool (by
          unfold keptS; symm; refine decide_eq_false ?_
          rintro ⟨_, _, hd⟩
          exact h0 (n - t).toNat (by omega) (by omega)), rfl⟩
set_option maxHeartbeats 400000 in
theorem historyKepts_walk (w : World) {n t : Int} (hn : (Lit.int .i64 n).wf = true) (_ : (Lit.int .i64 t).wf = true) :
    Calls Try.prog 4 #[.int .i64 n, .int .i64 t] w (RetV w (.bool true)) := by
  have hb := (bounds_i64 hn).2
  clear hn
  have Hb := Lib.hid hb
  clear hb
  go_enter Try.func4, Try.ntmps4
  go_wp2_with (first
    | (go_at_call 13; refine (kept_ok _ _ _ Hb.out).mono ?_; rintro e w' ⟨rfl, rfl⟩)
    | (go_at_call 14; refine (keptAt_ok _ _ _ Hb.out).mono ?_; rintro e w' ⟨rfl, rfl⟩))
  go_ret
  exact ⟨by simp, Below.refl _ _⟩
end Go.Proofs.Ytdhbnhjgbcipkaa
