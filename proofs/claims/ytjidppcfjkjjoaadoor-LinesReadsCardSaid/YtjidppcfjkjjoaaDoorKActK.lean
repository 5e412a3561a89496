/- ActK: Walks: acts checked. Walks of PathChecks, ForestNames, HistoryKepts. The conditions of each are in its words. -/
import Derived.OpenShut
import Derived.Test.YtjidppcfjkjjoaaDoorKBase
namespace Go.Proofs.YtjidppcfjkjjoaaDoor
open Go.RowKit
set_option linter.unusedVariables false
set_option linter.unusedSimpArgs false

/-- What ActFault and lines.Check answer. -/
def actFaultS (k s p : Int) (n : Nat) : Int :=
  if k < 1 ∨ 4 < k then 5 else if (k = 1 ∧ (s < 0 ∨ 8 ≤ s)) ∨ (k = 3 ∧ (p < 0 ∨ 200000 < p)) then 2 else if 4000 < n then 1
  else if (k ≠ 1 ∧ (s ≠ 0 ∨ 0 < n)) ∨ (k ≠ 3 ∧ p ≠ 0) then 4 else 0

set_option maxRecDepth 100000 in
set_option maxHeartbeats 4000000 in
theorem linesCheck_ok (w : World) (k s p : Int) (A : Option Addr) (n c : Nat) :
    Calls Tryd.prog 12 #[.agg #[.int .i64 k, .int .i64 s, .int .i64 p, .slice A n c]] w (RetV w (.int .i64 (actFaultS k s p n))) := by
  have hk : k < 1 ∨ 4 < k ∨ k = 1 ∨ k = 3 ∨ k = 2 ∨ k = 4 := by omega
  rcases hk with h | h | rfl | rfl | rfl | rfl
  ·
    have b1 : decide (1 ≤ k) = false := by simp; omega
    go_enter Tryd.func12, Tryd.ntmps12
    go_wp2
    all_goals (go_ret; exact ⟨ret_int (by simp only [actFaultS]; rw [if_pos (by omega)]), by repeat' (first | exact Below.refl _ _ | assumption | refine Below.drew ?_ | refine below_drewN ?_ _ | refine Below.alloc ?_ (by first | exact Nat.le_refl _ | omega | (simp; done) | (simp; omega)) _)⟩)
  ·
    have b2 : decide (1 ≤ k) = true := by simp; omega
    have b3 : decide (k ≤ 4) = false := by simp; omega
    go_enter Tryd.func12, Tryd.ntmps12
    go_wp2
    all_goals (go_ret; exact ⟨ret_int (by simp only [actFaultS]; rw [if_pos (by omega)]), by repeat' (first | exact Below.refl _ _ | assumption | refine Below.drew ?_ | refine below_drewN ?_ _ | refine Below.alloc ?_ (by first | exact Nat.le_refl _ | omega | (simp; done) | (simp; omega)) _)⟩)
  · rcases (by omega : s < 0 ∨ 8 ≤ s ∨ ((0 ≤ s ∧ s < 8) ∧ 4000 < n) ∨ ((0 ≤ s ∧ s < 8) ∧ n ≤ 4000 ∧ p ≠ 0) ∨ ((0 ≤ s ∧ s < 8) ∧ n ≤ 4000 ∧ p = 0)) with h | h | ⟨⟨h, h'⟩, g⟩ | ⟨⟨h, h'⟩, g, e⟩ | ⟨⟨h, h'⟩, g, rfl⟩
    ·
      have b6 : decide (0 ≤ s) = false := by simp; omega
      go_enter Tryd.func12, Tryd.ntmps12
      go_wp2
      all_goals (go_ret; exact ⟨ret_int (by simp only [actFaultS]; rw [if_neg (by omega), if_pos (by simp; omega)]), by repeat' (first | exact Below.refl _ _ | assumption | refine Below.drew ?_ | refine below_drewN ?_ _ | refine Below.alloc ?_ (by first | exact Nat.le_refl _ | omega | (simp; done) | (simp; omega)) _)⟩)
    ·
      have b7 : decide (0 ≤ s) = true := by simp; omega
      have b8 : decide (s ≤ 7) = false := by simp; omega
      go_enter Tryd.func12, Tryd.ntmps12
      go_wp2
      all_goals (go_ret; exact ⟨ret_int (by simp only [actFaultS]; rw [if_neg (by omega), if_pos (by simp; omega)]), by repeat' (first | exact Below.refl _ _ | assumption | refine Below.drew ?_ | refine below_drewN ?_ _ | refine Below.alloc ?_ (by first | exact Nat.le_refl _ | omega | (simp; done) | (simp; omega)) _)⟩)
    ·
      have b9 : decide (0 ≤ s) = true := by simp; omega
      have b10 : decide (s ≤ 7) = true := by simp; omega
      go_enter Tryd.func12, Tryd.ntmps12
      go_wp2
      all_goals (go_ret; exact ⟨ret_int (by simp only [actFaultS]; rw [if_neg (by omega), if_neg (by omega), if_pos (by omega)]), by repeat' (first | exact Below.refl _ _ | assumption | refine Below.drew ?_ | refine below_drewN ?_ _ | refine Below.alloc ?_ (by first | exact Nat.le_refl _ | omega | (simp; done) | (simp; omega)) _)⟩)
    ·
      have b11 : decide (0 ≤ s) = true := by simp; omega
      have b12 : decide (s ≤ 7) = true := by simp; omega
      have b13 : (p != 0) = true := by simp; omega
      go_enter Tryd.func12, Tryd.ntmps12
      go_wp2
      all_goals (go_ret; exact ⟨ret_int (by simp only [actFaultS]; rw [if_neg (by omega), if_neg (by omega), if_neg (by omega), if_pos (by omega)]), by repeat' (first | exact Below.refl _ _ | assumption | refine Below.drew ?_ | refine below_drewN ?_ _ | refine Below.alloc ?_ (by first | exact Nat.le_refl _ | omega | (simp; done) | (simp; omega)) _)⟩)
    ·
      have b14 : decide (0 ≤ s) = true := by simp; omega
      have b15 : decide (s ≤ 7) = true := by simp; omega
      go_enter Tryd.func12, Tryd.ntmps12
      go_wp2
      all_goals (go_ret; exact ⟨ret_int (by simp only [actFaultS]; rw [if_neg (by omega), if_neg (by omega), if_neg (by omega), if_neg (by omega)]), by repeat' (first | exact Below.refl _ _ | assumption | refine Below.drew ?_ | refine below_drewN ?_ _ | refine Below.alloc ?_ (by first | exact Nat.le_refl _ | omega | (simp; done) | (simp; omega)) _)⟩)
  · rcases (by omega : p < 0 ∨ 200000 < p ∨ ((0 ≤ p ∧ p ≤ 200000) ∧ 4000 < n) ∨ ((0 ≤ p ∧ p ≤ 200000) ∧ n ≤ 4000 ∧ s ≠ 0) ∨ ((0 ≤ p ∧ p ≤ 200000) ∧ n ≤ 4000 ∧ s = 0 ∧ 0 < n) ∨ ((0 ≤ p ∧ p ≤ 200000) ∧ n = 0 ∧ s = 0)) with h | h | ⟨⟨h, h'⟩, g⟩ | ⟨⟨h, h'⟩, g, e⟩ | ⟨⟨h, h'⟩, g, rfl, e⟩ | ⟨⟨h, h'⟩, rfl, rfl⟩
    ·
      have b16 : decide (0 ≤ p) = false := by simp; omega
      go_enter Tryd.func12, Tryd.ntmps12
      go_wp2
      all_goals (go_ret; exact ⟨ret_int (by simp only [actFaultS]; rw [if_neg (by omega), if_pos (by simp; omega)]), by repeat' (first | exact Below.refl _ _ | assumption | refine Below.drew ?_ | refine below_drewN ?_ _ | refine Below.alloc ?_ (by first | exact Nat.le_refl _ | omega | (simp; done) | (simp; omega)) _)⟩)
    ·
      have b17 : decide (0 ≤ p) = true := by simp; omega
      have b18 : decide (p ≤ 200000) = false := by simp; omega
      go_enter Tryd.func12, Tryd.ntmps12
      go_wp2
      all_goals (go_ret; exact ⟨ret_int (by simp only [actFaultS]; rw [if_neg (by omega), if_pos (by simp; omega)]), by repeat' (first | exact Below.refl _ _ | assumption | refine Below.drew ?_ | refine below_drewN ?_ _ | refine Below.alloc ?_ (by first | exact Nat.le_refl _ | omega | (simp; done) | (simp; omega)) _)⟩)
    ·
      have b19 : decide (0 ≤ p) = true := by simp; omega
      have b20 : decide (p ≤ 200000) = true := by simp; omega
      go_enter Tryd.func12, Tryd.ntmps12
      go_wp2
      all_goals (go_ret; exact ⟨ret_int (by simp only [actFaultS]; rw [if_neg (by omega), if_neg (by omega), if_pos (by omega)]), by repeat' (first | exact Below.refl _ _ | assumption | refine Below.drew ?_ | refine below_drewN ?_ _ | refine Below.alloc ?_ (by first | exact Nat.le_refl _ | omega | (simp; done) | (simp; omega)) _)⟩)
    ·
      have b21 : decide (0 ≤ p) = true := by simp; omega
      have b22 : decide (p ≤ 200000) = true := by simp; omega
      have b23 : (s != 0) = true := by simp; omega
      go_enter Tryd.func12, Tryd.ntmps12
      go_wp2
      all_goals (go_ret; exact ⟨ret_int (by simp only [actFaultS]; rw [if_neg (by omega), if_neg (by omega), if_neg (by omega), if_pos (by omega)]), by repeat' (first | exact Below.refl _ _ | assumption | refine Below.drew ?_ | refine below_drewN ?_ _ | refine Below.alloc ?_ (by first | exact Nat.le_refl _ | omega | (simp; done) | (simp; omega)) _)⟩)
    ·
      have b24 : decide (0 ≤ p) = true := by simp; omega
      have b25 : decide (p ≤ 200000) = true := by simp; omega
      go_enter Tryd.func12, Tryd.ntmps12
      go_wp2
      all_goals (go_ret; exact ⟨ret_int (by simp only [actFaultS]; rw [if_neg (by omega), if_neg (by omega), if_neg (by omega), if_pos (by omega)]), by repeat' (first | exact Below.refl _ _ | assumption | refine Below.drew ?_ | refine below_drewN ?_ _ | refine Below.alloc ?_ (by first | exact Nat.le_refl _ | omega | (simp; done) | (simp; omega)) _)⟩)
    ·
      have b26 : decide (0 ≤ p) = true := by simp; omega
      have b27 : decide (p ≤ 200000) = true := by simp; omega
      go_enter Tryd.func12, Tryd.ntmps12
      go_wp2
      all_goals (go_ret; exact ⟨ret_int (by simp only [actFaultS]; rw [if_neg (by omega), if_neg (by omega), if_neg (by omega), if_neg (by omega)]), by repeat' (first | exact Below.refl _ _ | assumption | refine Below.drew ?_ | refine below_drewN ?_ _ | refine Below.alloc ?_ (by first | exact Nat.le_refl _ | omega | (simp; done) | (simp; omega)) _)⟩)
  · rcases (by omega : 4000 < n ∨ (n ≤ 4000 ∧ s ≠ 0) ∨ (n ≤ 4000 ∧ s = 0 ∧ 0 < n) ∨ (n = 0 ∧ s = 0 ∧ p ≠ 0) ∨ (n = 0 ∧ s = 0 ∧ p = 0)) with g | ⟨g, e⟩ | ⟨g, rfl, e⟩ | ⟨rfl, rfl, e⟩ | ⟨rfl, rfl, rfl⟩
    ·
      go_enter Tryd.func12, Tryd.ntmps12
      go_wp2
      all_goals (go_ret; exact ⟨ret_int (by simp only [actFaultS]; rw [if_neg (by omega), if_neg (by omega), if_pos (by omega)]), by repeat' (first | exact Below.refl _ _ | assumption | refine Below.drew ?_ | refine below_drewN ?_ _ | refine Below.alloc ?_ (by first | exact Nat.le_refl _ | omega | (simp; done) | (simp; omega)) _)⟩)
    ·
      have b28 : (s != 0) = true := by simp; omega
      go_enter Tryd.func12, Tryd.ntmps12
      go_wp2
      all_goals (go_ret; exact ⟨ret_int (by simp only [actFaultS]; rw [if_neg (by omega), if_neg (by omega), if_neg (by omega), if_pos (by omega)]), by repeat' (first | exact Below.refl _ _ | assumption | refine Below.drew ?_ | refine below_drewN ?_ _ | refine Below.alloc ?_ (by first | exact Nat.le_refl _ | omega | (simp; done) | (simp; omega)) _)⟩)
    ·
      go_enter Tryd.func12, Tryd.ntmps12
      go_wp2
      all_goals (go_ret; exact ⟨ret_int (by simp only [actFaultS]; rw [if_neg (by omega), if_neg (by omega), if_neg (by omega), if_pos (by omega)]), by repeat' (first | exact Below.refl _ _ | assumption | refine Below.drew ?_ | refine below_drewN ?_ _ | refine Below.alloc ?_ (by first | exact Nat.le_refl _ | omega | (simp; done) | (simp; omega)) _)⟩)
    ·
      have b29 : (p != 0) = true := by simp; omega
      go_enter Tryd.func12, Tryd.ntmps12
      go_wp2
      all_goals (go_ret; exact ⟨ret_int (by simp only [actFaultS]; rw [if_neg (by omega), if_neg (by omega), if_neg (by omega), if_pos (by omega)]), by repeat' (first | exact Below.refl _ _ | assumption | refine Below.drew ?_ | refine below_drewN ?_ _ | refine Below.alloc ?_ (by first | exact Nat.le_refl _ | omega | (simp; done) | (simp; omega)) _)⟩)
    ·
      go_enter Tryd.func12, Tryd.ntmps12
      go_wp2
      all_goals (go_ret; exact ⟨ret_int (by simp only [actFaultS]; rw [if_neg (by omega), if_neg (by omega), if_neg (by omega), if_neg (by omega)]), by repeat' (first | exact Below.refl _ _ | assumption | refine Below.drew ?_ | refine below_drewN ?_ _ | refine Below.alloc ?_ (by first | exact Nat.le_refl _ | omega | (simp; done) | (simp; omega)) _)⟩)
  · rcases (by omega : 4000 < n ∨ (n ≤ 4000 ∧ s ≠ 0) ∨ (n ≤ 4000 ∧ s = 0 ∧ 0 < n) ∨ (n = 0 ∧ s = 0 ∧ p ≠ 0) ∨ (n = 0 ∧ s = 0 ∧ p = 0)) with g | ⟨g, e⟩ | ⟨g, rfl, e⟩ | ⟨rfl, rfl, e⟩ | ⟨rfl, rfl, rfl⟩
    ·
      go_enter Tryd.func12, Tryd.ntmps12
      go_wp2
      all_goals (go_ret; exact ⟨ret_int (by simp only [actFaultS]; rw [if_neg (by omega), if_neg (by omega), if_pos (by omega)]), by repeat' (first | exact Below.refl _ _ | assumption | refine Below.drew ?_ | refine below_drewN ?_ _ | refine Below.alloc ?_ (by first | exact Nat.le_refl _ | omega | (simp; done) | (simp; omega)) _)⟩)
    ·
      have b30 : (s != 0) = true := by simp; omega
      go_enter Tryd.func12, Tryd.ntmps12
      go_wp2
      all_goals (go_ret; exact ⟨ret_int (by simp only [actFaultS]; rw [if_neg (by omega), if_neg (by omega), if_neg (by omega), if_pos (by omega)]), by repeat' (first | exact Below.refl _ _ | assumption | refine Below.drew ?_ | refine below_drewN ?_ _ | refine Below.alloc ?_ (by first | exact Nat.le_refl _ | omega | (simp; done) | (simp; omega)) _)⟩)
    ·
      go_enter Tryd.func12, Tryd.ntmps12
      go_wp2
      all_goals (go_ret; exact ⟨ret_int (by simp only [actFaultS]; rw [if_neg (by omega), if_neg (by omega), if_neg (by omega), if_pos (by omega)]), by repeat' (first | exact Below.refl _ _ | assumption | refine Below.drew ?_ | refine below_drewN ?_ _ | refine Below.alloc ?_ (by first | exact Nat.le_refl _ | omega | (simp; done) | (simp; omega)) _)⟩)
    ·
      have b31 : (p != 0) = true := by simp; omega
      go_enter Tryd.func12, Tryd.ntmps12
      go_wp2
      all_goals (go_ret; exact ⟨ret_int (by simp only [actFaultS]; rw [if_neg (by omega), if_neg (by omega), if_neg (by omega), if_pos (by omega)]), by repeat' (first | exact Below.refl _ _ | assumption | refine Below.drew ?_ | refine below_drewN ?_ _ | refine Below.alloc ?_ (by first | exact Nat.le_refl _ | omega | (simp; done) | (simp; omega)) _)⟩)
    ·
      go_enter Tryd.func12, Tryd.ntmps12
      go_wp2
      all_goals (go_ret; exact ⟨ret_int (by simp only [actFaultS]; rw [if_neg (by omega), if_neg (by omega), if_neg (by omega), if_neg (by omega)]), by repeat' (first | exact Below.refl _ _ | assumption | refine Below.drew ?_ | refine below_drewN ?_ _ | refine Below.alloc ?_ (by first | exact Nat.le_refl _ | omega | (simp; done) | (simp; omega)) _)⟩)

set_option maxRecDepth 100000 in
set_option maxHeartbeats 4000000 in
theorem actFault_ok (w : World) (k s p : Int) (A : Option Addr) (n c : Nat) :
    Calls Tryd.prog 16 #[.agg #[.int .i64 k, .int .i64 s, .int .i64 p, .slice A n c]] w (RetV w (.int .i64 (actFaultS k s p n))) := by
  have hk : k < 1 ∨ 4 < k ∨ k = 1 ∨ k = 3 ∨ k = 2 ∨ k = 4 := by omega
  rcases hk with h | h | rfl | rfl | rfl | rfl
  ·
    have b32 : decide (1 ≤ k) = false := by simp; omega
    go_enter Tryd.func16, Tryd.ntmps16
    go_wp2_with (go_at_call 24; refine (in_ok _ _ _ _).mono ?_; rintro e w' ⟨rfl, rfl⟩)
    all_goals (go_ret; exact ⟨ret_int (by simp only [actFaultS]; rw [if_pos (by omega)]), by repeat' (first | exact Below.refl _ _ | assumption | refine Below.drew ?_ | refine below_drewN ?_ _ | refine Below.alloc ?_ (by first | exact Nat.le_refl _ | omega | (simp; done) | (simp; omega)) _)⟩)
  ·
    have b33 : decide (1 ≤ k) = true := by simp; omega
    have b34 : decide (k ≤ 4) = false := by simp; omega
    go_enter Tryd.func16, Tryd.ntmps16
    go_wp2_with (go_at_call 24; refine (in_ok _ _ _ _).mono ?_; rintro e w' ⟨rfl, rfl⟩)
    all_goals (go_ret; exact ⟨ret_int (by simp only [actFaultS]; rw [if_pos (by omega)]), by repeat' (first | exact Below.refl _ _ | assumption | refine Below.drew ?_ | refine below_drewN ?_ _ | refine Below.alloc ?_ (by first | exact Nat.le_refl _ | omega | (simp; done) | (simp; omega)) _)⟩)
  · rcases (by omega : s < 0 ∨ 8 ≤ s ∨ ((0 ≤ s ∧ s < 8) ∧ 4000 < n) ∨ ((0 ≤ s ∧ s < 8) ∧ n ≤ 4000 ∧ p ≠ 0) ∨ ((0 ≤ s ∧ s < 8) ∧ n ≤ 4000 ∧ p = 0)) with h | h | ⟨⟨h, h'⟩, g⟩ | ⟨⟨h, h'⟩, g, e⟩ | ⟨⟨h, h'⟩, g, rfl⟩
    ·
      have b37 : decide (0 ≤ s) = false := by simp; omega
      go_enter Tryd.func16, Tryd.ntmps16
      go_wp2_with (go_at_call 24; refine (in_ok _ _ _ _).mono ?_; rintro e w' ⟨rfl, rfl⟩)
      all_goals (go_ret; exact ⟨ret_int (by simp only [actFaultS]; rw [if_neg (by omega), if_pos (by simp; omega)]), by repeat' (first | exact Below.refl _ _ | assumption | refine Below.drew ?_ | refine below_drewN ?_ _ | refine Below.alloc ?_ (by first | exact Nat.le_refl _ | omega | (simp; done) | (simp; omega)) _)⟩)
    ·
      have b38 : decide (0 ≤ s) = true := by simp; omega
      have b39 : decide (s ≤ 7) = false := by simp; omega
      go_enter Tryd.func16, Tryd.ntmps16
      go_wp2_with (go_at_call 24; refine (in_ok _ _ _ _).mono ?_; rintro e w' ⟨rfl, rfl⟩)
      all_goals (go_ret; exact ⟨ret_int (by simp only [actFaultS]; rw [if_neg (by omega), if_pos (by simp; omega)]), by repeat' (first | exact Below.refl _ _ | assumption | refine Below.drew ?_ | refine below_drewN ?_ _ | refine Below.alloc ?_ (by first | exact Nat.le_refl _ | omega | (simp; done) | (simp; omega)) _)⟩)
    ·
      have b40 : decide (0 ≤ s) = true := by simp; omega
      have b41 : decide (s ≤ 7) = true := by simp; omega
      go_enter Tryd.func16, Tryd.ntmps16
      go_wp2_with (go_at_call 24; refine (in_ok _ _ _ _).mono ?_; rintro e w' ⟨rfl, rfl⟩)
      all_goals (go_ret; exact ⟨ret_int (by simp only [actFaultS]; rw [if_neg (by omega), if_neg (by omega), if_pos (by omega)]), by repeat' (first | exact Below.refl _ _ | assumption | refine Below.drew ?_ | refine below_drewN ?_ _ | refine Below.alloc ?_ (by first | exact Nat.le_refl _ | omega | (simp; done) | (simp; omega)) _)⟩)
    ·
      have b42 : decide (0 ≤ s) = true := by simp; omega
      have b43 : decide (s ≤ 7) = true := by simp; omega
      have b44 : (p != 0) = true := by simp; omega
      go_enter Tryd.func16, Tryd.ntmps16
      go_wp2_with (go_at_call 24; refine (in_ok _ _ _ _).mono ?_; rintro e w' ⟨rfl, rfl⟩)
      all_goals (go_ret; exact ⟨ret_int (by simp only [actFaultS]; rw [if_neg (by omega), if_neg (by omega), if_neg (by omega), if_pos (by omega)]), by repeat' (first | exact Below.refl _ _ | assumption | refine Below.drew ?_ | refine below_drewN ?_ _ | refine Below.alloc ?_ (by first | exact Nat.le_refl _ | omega | (simp; done) | (simp; omega)) _)⟩)
    ·
      have b45 : decide (0 ≤ s) = true := by simp; omega
      have b46 : decide (s ≤ 7) = true := by simp; omega
      go_enter Tryd.func16, Tryd.ntmps16
      go_wp2_with (go_at_call 24; refine (in_ok _ _ _ _).mono ?_; rintro e w' ⟨rfl, rfl⟩)
      all_goals (go_ret; exact ⟨ret_int (by simp only [actFaultS]; rw [if_neg (by omega), if_neg (by omega), if_neg (by omega), if_neg (by omega)]), by repeat' (first | exact Below.refl _ _ | assumption | refine Below.drew ?_ | refine below_drewN ?_ _ | refine Below.alloc ?_ (by first | exact Nat.le_refl _ | omega | (simp; done) | (simp; omega)) _)⟩)
  · rcases (by omega : p < 0 ∨ 200000 < p ∨ ((0 ≤ p ∧ p ≤ 200000) ∧ 4000 < n) ∨ ((0 ≤ p ∧ p ≤ 200000) ∧ n ≤ 4000 ∧ s ≠ 0) ∨ ((0 ≤ p ∧ p ≤ 200000) ∧ n ≤ 4000 ∧ s = 0 ∧ 0 < n) ∨ ((0 ≤ p ∧ p ≤ 200000) ∧ n = 0 ∧ s = 0)) with h | h | ⟨⟨h, h'⟩, g⟩ | ⟨⟨h, h'⟩, g, e⟩ | ⟨⟨h, h'⟩, g, rfl, e⟩ | ⟨⟨h, h'⟩, rfl, rfl⟩
    ·
      have b47 : decide (0 ≤ p) = false := by simp; omega
      go_enter Tryd.func16, Tryd.ntmps16
      go_wp2_with (go_at_call 24; refine (in_ok _ _ _ _).mono ?_; rintro e w' ⟨rfl, rfl⟩)
      all_goals (go_ret; exact ⟨ret_int (by simp only [actFaultS]; rw [if_neg (by omega), if_pos (by simp; omega)]), by repeat' (first | exact Below.refl _ _ | assumption | refine Below.drew ?_ | refine below_drewN ?_ _ | refine Below.alloc ?_ (by first | exact Nat.le_refl _ | omega | (simp; done) | (simp; omega)) _)⟩)
    ·
      have b48 : decide (0 ≤ p) = true := by simp; omega
      have b49 : decide (p ≤ 200000) = false := by simp; omega
      go_enter Tryd.func16, Tryd.ntmps16
      go_wp2_with (go_at_call 24; refine (in_ok _ _ _ _).mono ?_; rintro e w' ⟨rfl, rfl⟩)
      all_goals (go_ret; exact ⟨ret_int (by simp only [actFaultS]; rw [if_neg (by omega), if_pos (by simp; omega)]), by repeat' (first | exact Below.refl _ _ | assumption | refine Below.drew ?_ | refine below_drewN ?_ _ | refine Below.alloc ?_ (by first | exact Nat.le_refl _ | omega | (simp; done) | (simp; omega)) _)⟩)
    ·
      have b50 : decide (0 ≤ p) = true := by simp; omega
      have b51 : decide (p ≤ 200000) = true := by simp; omega
      go_enter Tryd.func16, Tryd.ntmps16
      go_wp2_with (go_at_call 24; refine (in_ok _ _ _ _).mono ?_; rintro e w' ⟨rfl, rfl⟩)
      all_goals (go_ret; exact ⟨ret_int (by simp only [actFaultS]; rw [if_neg (by omega), if_neg (by omega), if_pos (by omega)]), by repeat' (first | exact Below.refl _ _ | assumption | refine Below.drew ?_ | refine below_drewN ?_ _ | refine Below.alloc ?_ (by first | exact Nat.le_refl _ | omega | (simp; done) | (simp; omega)) _)⟩)
    ·
      have b52 : decide (0 ≤ p) = true := by simp; omega
      have b53 : decide (p ≤ 200000) = true := by simp; omega
      have b54 : (s != 0) = true := by simp; omega
      go_enter Tryd.func16, Tryd.ntmps16
      go_wp2_with (go_at_call 24; refine (in_ok _ _ _ _).mono ?_; rintro e w' ⟨rfl, rfl⟩)
      all_goals (go_ret; exact ⟨ret_int (by simp only [actFaultS]; rw [if_neg (by omega), if_neg (by omega), if_neg (by omega), if_pos (by omega)]), by repeat' (first | exact Below.refl _ _ | assumption | refine Below.drew ?_ | refine below_drewN ?_ _ | refine Below.alloc ?_ (by first | exact Nat.le_refl _ | omega | (simp; done) | (simp; omega)) _)⟩)
    ·
      have b55 : decide (0 ≤ p) = true := by simp; omega
      have b56 : decide (p ≤ 200000) = true := by simp; omega
      go_enter Tryd.func16, Tryd.ntmps16
      go_wp2_with (go_at_call 24; refine (in_ok _ _ _ _).mono ?_; rintro e w' ⟨rfl, rfl⟩)
      all_goals (go_ret; exact ⟨ret_int (by simp only [actFaultS]; rw [if_neg (by omega), if_neg (by omega), if_neg (by omega), if_pos (by omega)]), by repeat' (first | exact Below.refl _ _ | assumption | refine Below.drew ?_ | refine below_drewN ?_ _ | refine Below.alloc ?_ (by first | exact Nat.le_refl _ | omega | (simp; done) | (simp; omega)) _)⟩)
    ·
      have b57 : decide (0 ≤ p) = true := by simp; omega
      have b58 : decide (p ≤ 200000) = true := by simp; omega
      go_enter Tryd.func16, Tryd.ntmps16
      go_wp2_with (go_at_call 24; refine (in_ok _ _ _ _).mono ?_; rintro e w' ⟨rfl, rfl⟩)
      all_goals (go_ret; exact ⟨ret_int (by simp only [actFaultS]; rw [if_neg (by omega), if_neg (by omega), if_neg (by omega), if_neg (by omega)]), by repeat' (first | exact Below.refl _ _ | assumption | refine Below.drew ?_ | refine below_drewN ?_ _ | refine Below.alloc ?_ (by first | exact Nat.le_refl _ | omega | (simp; done) | (simp; omega)) _)⟩)
  · rcases (by omega : 4000 < n ∨ (n ≤ 4000 ∧ s ≠ 0) ∨ (n ≤ 4000 ∧ s = 0 ∧ 0 < n) ∨ (n = 0 ∧ s = 0 ∧ p ≠ 0) ∨ (n = 0 ∧ s = 0 ∧ p = 0)) with g | ⟨g, e⟩ | ⟨g, rfl, e⟩ | ⟨rfl, rfl, e⟩ | ⟨rfl, rfl, rfl⟩
    ·
      go_enter Tryd.func16, Tryd.ntmps16
      go_wp2_with (go_at_call 24; refine (in_ok _ _ _ _).mono ?_; rintro e w' ⟨rfl, rfl⟩)
      all_goals (go_ret; exact ⟨ret_int (by simp only [actFaultS]; rw [if_neg (by omega), if_neg (by omega), if_pos (by omega)]), by repeat' (first | exact Below.refl _ _ | assumption | refine Below.drew ?_ | refine below_drewN ?_ _ | refine Below.alloc ?_ (by first | exact Nat.le_refl _ | omega | (simp; done) | (simp; omega)) _)⟩)
    ·
      have b59 : (s != 0) = true := by simp; omega
      go_enter Tryd.func16, Tryd.ntmps16
      go_wp2_with (go_at_call 24; refine (in_ok _ _ _ _).mono ?_; rintro e w' ⟨rfl, rfl⟩)
      all_goals (go_ret; exact ⟨ret_int (by simp only [actFaultS]; rw [if_neg (by omega), if_neg (by omega), if_neg (by omega), if_pos (by omega)]), by repeat' (first | exact Below.refl _ _ | assumption | refine Below.drew ?_ | refine below_drewN ?_ _ | refine Below.alloc ?_ (by first | exact Nat.le_refl _ | omega | (simp; done) | (simp; omega)) _)⟩)
    ·
      go_enter Tryd.func16, Tryd.ntmps16
      go_wp2_with (go_at_call 24; refine (in_ok _ _ _ _).mono ?_; rintro e w' ⟨rfl, rfl⟩)
      all_goals (go_ret; exact ⟨ret_int (by simp only [actFaultS]; rw [if_neg (by omega), if_neg (by omega), if_neg (by omega), if_pos (by omega)]), by repeat' (first | exact Below.refl _ _ | assumption | refine Below.drew ?_ | refine below_drewN ?_ _ | refine Below.alloc ?_ (by first | exact Nat.le_refl _ | omega | (simp; done) | (simp; omega)) _)⟩)
    ·
      have b60 : (p != 0) = true := by simp; omega
      go_enter Tryd.func16, Tryd.ntmps16
      go_wp2_with (go_at_call 24; refine (in_ok _ _ _ _).mono ?_; rintro e w' ⟨rfl, rfl⟩)
      all_goals (go_ret; exact ⟨ret_int (by simp only [actFaultS]; rw [if_neg (by omega), if_neg (by omega), if_neg (by omega), if_pos (by omega)]), by repeat' (first | exact Below.refl _ _ | assumption | refine Below.drew ?_ | refine below_drewN ?_ _ | refine Below.alloc ?_ (by first | exact Nat.le_refl _ | omega | (simp; done) | (simp; omega)) _)⟩)
    ·
      go_enter Tryd.func16, Tryd.ntmps16
      go_wp2_with (go_at_call 24; refine (in_ok _ _ _ _).mono ?_; rintro e w' ⟨rfl, rfl⟩)
      all_goals (go_ret; exact ⟨ret_int (by simp only [actFaultS]; rw [if_neg (by omega), if_neg (by omega), if_neg (by omega), if_neg (by omega)]), by repeat' (first | exact Below.refl _ _ | assumption | refine Below.drew ?_ | refine below_drewN ?_ _ | refine Below.alloc ?_ (by first | exact Nat.le_refl _ | omega | (simp; done) | (simp; omega)) _)⟩)
  · rcases (by omega : 4000 < n ∨ (n ≤ 4000 ∧ s ≠ 0) ∨ (n ≤ 4000 ∧ s = 0 ∧ 0 < n) ∨ (n = 0 ∧ s = 0 ∧ p ≠ 0) ∨ (n = 0 ∧ s = 0 ∧ p = 0)) with g | ⟨g, e⟩ | ⟨g, rfl, e⟩ | ⟨rfl, rfl, e⟩ | ⟨rfl, rfl, rfl⟩
    ·
      go_enter Tryd.func16, Tryd.ntmps16
      go_wp2_with (go_at_call 24; refine (in_ok _ _ _ _).mono ?_; rintro e w' ⟨rfl, rfl⟩)
      all_goals (go_ret; exact ⟨ret_int (by simp only [actFaultS]; rw [if_neg (by omega), if_neg (by omega), if_pos (by omega)]), by repeat' (first | exact Below.refl _ _ | assumption | refine Below.drew ?_ | refine below_drewN ?_ _ | refine Below.alloc ?_ (by first | exact Nat.le_refl _ | omega | (simp; done) | (simp; omega)) _)⟩)
    ·
      have b61 : (s != 0) = true := by simp; omega
      go_enter Tryd.func16, Tryd.ntmps16
      go_wp2_with (go_at_call 24; refine (in_ok _ _ _ _).mono ?_; rintro e w' ⟨rfl, rfl⟩)
      all_goals (go_ret; exact ⟨ret_int (by simp only [actFaultS]; rw [if_neg (by omega), if_neg (by omega), if_neg (by omega), if_pos (by omega)]), by repeat' (first | exact Below.refl _ _ | assumption | refine Below.drew ?_ | refine below_drewN ?_ _ | refine Below.alloc ?_ (by first | exact Nat.le_refl _ | omega | (simp; done) | (simp; omega)) _)⟩)
    ·
      go_enter Tryd.func16, Tryd.ntmps16
      go_wp2_with (go_at_call 24; refine (in_ok _ _ _ _).mono ?_; rintro e w' ⟨rfl, rfl⟩)
      all_goals (go_ret; exact ⟨ret_int (by simp only [actFaultS]; rw [if_neg (by omega), if_neg (by omega), if_neg (by omega), if_pos (by omega)]), by repeat' (first | exact Below.refl _ _ | assumption | refine Below.drew ?_ | refine below_drewN ?_ _ | refine Below.alloc ?_ (by first | exact Nat.le_refl _ | omega | (simp; done) | (simp; omega)) _)⟩)
    ·
      have b62 : (p != 0) = true := by simp; omega
      go_enter Tryd.func16, Tryd.ntmps16
      go_wp2_with (go_at_call 24; refine (in_ok _ _ _ _).mono ?_; rintro e w' ⟨rfl, rfl⟩)
      all_goals (go_ret; exact ⟨ret_int (by simp only [actFaultS]; rw [if_neg (by omega), if_neg (by omega), if_neg (by omega), if_pos (by omega)]), by repeat' (first | exact Below.refl _ _ | assumption | refine Below.drew ?_ | refine below_drewN ?_ _ | refine Below.alloc ?_ (by first | exact Nat.le_refl _ | omega | (simp; done) | (simp; omega)) _)⟩)
    ·
      go_enter Tryd.func16, Tryd.ntmps16
      go_wp2_with (go_at_call 24; refine (in_ok _ _ _ _).mono ?_; rintro e w' ⟨rfl, rfl⟩)
      all_goals (go_ret; exact ⟨ret_int (by simp only [actFaultS]; rw [if_neg (by omega), if_neg (by omega), if_neg (by omega), if_neg (by omega)]), by repeat' (first | exact Below.refl _ _ | assumption | refine Below.drew ?_ | refine below_drewN ?_ _ | refine Below.alloc ?_ (by first | exact Nat.le_refl _ | omega | (simp; done) | (simp; omega)) _)⟩)
end Go.Proofs.YtjidppcfjkjjoaaDoor
namespace Go.Proofs.YtjidppcfjkjjoaaDoor
open Go.RowKit
set_option linter.unusedVariables false
set_option linter.unusedSimpArgs false
/-- What Kept and KeptAt answer. -/
def keptS (n t : Int) : Bool := decide (0 ≤ t ∧ t ≤ n ∧ n - t < 6)
end Go.Proofs.YtjidppcfjkjjoaaDoor
