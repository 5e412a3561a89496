/- Walks: RequestFault. -/
import Derived.Test.YtddppmhpdgecgaaDoorRq
namespace Go.Proofs.YtddppmhpdgecgaaDoor
open Go.RowKit
set_option linter.unusedVariables false
set_option linter.unusedSimpArgs false

theorem part_04 (h : Nat) (r : Rq) (i : Nat) : partF h r i = 0 ∨ partF h r i = 4 := by unfold partF; split <;> simp
theorem parts_4 {h : Nat} {r : Rq} (j : Nat) (hj : j < 4) (hb : h / 2 ^ j % 2 = 0) (hp : 0 < (partAt r j).length) : partsFault h r = 4 := by
  have e : partF h r j = 4 := by unfold partF; rw [if_pos ⟨hb, hp⟩]
  unfold partsFault
  rcases (by omega : j = 0 ∨ j = 1 ∨ j = 2 ∨ j = 3) with rfl | rfl | rfl | rfl <;>
    rcases part_04 h r 0 with h0 | h0 <;> rcases part_04 h r 1 with h1 | h1 <;> rcases part_04 h r 2 with h2 | h2 <;> rcases part_04 h r 3 with h3 | h3 <;> simp_all [firstBad]
theorem parts_0 {h : Nat} {r : Rq} (hp : ∀ j, j < 4 → h / 2 ^ j % 2 = 0 → ¬ 0 < (partAt r j).length) : partsFault h r = 0 := by
  have e : ∀ j, j < 4 → partF h r j = 0 := fun j hj => by
    unfold partF
    rw [if_neg fun h => hp j hj h.1 h.2]
  unfold partsFault
  simp [firstBad, e]
theorem names_0' (r : Rq) : namesFault 0 r = 0 := rfl
theorem names_3' (r : Rq) : namesFault 3 r = if nameFault r.name ≠ 0 then nameFault r.name else keyFault r.key := by
  by_cases h : keyFault r.key = 0 <;> simp [namesFault, h]
theorem names_7' (r : Rq) : namesFault 7 r = if nameFault r.name ≠ 0 then nameFault r.name else if keyFault r.key ≠ 0 then keyFault r.key else keyFault r.last := by
  simp [namesFault]
theorem names_11' (r : Rq) : namesFault 11 r = if nameFault r.name ≠ 0 then nameFault r.name else keyFault r.key := by
  by_cases h : keyFault r.key = 0 <;> simp [namesFault, h]
theorem body_names' {h : Nat} {r : Rq} (hn : namesFault h r ≠ 0) : bodyFault h r = namesFault h r := by unfold bodyFault; rw [if_pos hn]
theorem body_value' {h : Nat} {r : Rq} (hn : namesFault h r = 0) (hv : 32 < r.value.length) : bodyFault h r = 1 := by unfold bodyFault; rw [if_neg (by simp [hn]), if_pos hv]
theorem body_parts' {h : Nat} {r : Rq} (hn : namesFault h r = 0) (hv : r.value.length ≤ 32) : bodyFault h r = partsFault h r := by unfold bodyFault; rw [if_neg (by simp [hn]), if_neg (by omega)]
set_option maxRecDepth 100000 in
set_option maxHeartbeats 1000000 in
theorem named_ok (w : World) (k : Nat) (h1 : 1 ≤ k) (h8 : k ≤ 8) : Calls Tryd.prog 80 #[.int .i64 k] w (fun e w' => e = .returned (.bool (named k)) ∧ w' = w) := by
  have : k = 1 ∨ k = 2 ∨ k = 3 ∨ k = 4 ∨ k = 5 ∨ k = 6 ∨ k = 7 ∨ k = 8 := by omega
  clear h1 h8
  rcases this with rfl | rfl | rfl | rfl | rfl | rfl | rfl | rfl
  all_goals
    go_enter Tryd.func80, Tryd.ntmps80
    go_wp2_with (go_at_call 79; refine (in_ok _ _ _ _).mono ?_; rintro e w' ⟨rfl, rfl⟩)
    go_ret
    exact ⟨rfl, rfl⟩
theorem named_of {k : Nat} {h : Nat} (hh : hasS k = h) : named k = (h != 0) := by unfold named; rw [hh]
theorem kinds_of {k : Nat} (h1 : 1 ≤ k) (h8 : k ≤ 8) : (hasS k = 0 ∧ k ≠ 3 ∧ k ≠ 4) ∨ (hasS k = 3 ∧ k ≠ 3 ∧ k ≠ 4) ∨ (hasS k = 7 ∧ k = 3) ∨ (hasS k = 11 ∧ k = 4) := by
  have : k = 1 ∨ k = 2 ∨ k = 3 ∨ k = 4 ∨ k = 5 ∨ k = 6 ∨ k = 7 ∨ k = 8 := by omega
  rcases this with rfl | rfl | rfl | rfl | rfl | rfl | rfl | rfl <;> decide

set_option maxRecDepth 100000 in
set_option maxHeartbeats 4000000 in
theorem rqFault_0 (w : World) (A B C D : Option Addr) (n e l v : List UInt8) (a b c d : Nat) (k : Nat) (hk1 : 1 ≤ k) (hk8 : k ≤ 8) (hh : hasS k = 0) (hk3 : k ≠ 3) (hk4 : k ≠ 4) (hbn : n.length ≤ big) (hbe : e.length ≤ big) :
    Calls Tryd.prog 23 #[.agg #[.int .i64 k, .slice A n.length a, .slice B e.length b, .slice C l.length c, .slice D v.length d]] w (RetV w (.int .i64 (bodyFault 0 ⟨k, n, e, l, v⟩))) := by
  have Hnm := Lib.hid (show ∀ W : World, Calls Tryd.prog 80 #[.int .i64 k] W (fun e w' => e = .returned (.bool false) ∧ w' = W) from fun W => by have h := named_ok W k hk1 hk8; rw [named_of hh] at h; exact h)
  have hi : (decide ((1 : Int) ≤ (k : Int)) && decide ((k : Int) ≤ 8)) = true := by simp; omega
  have h3 : ((k : Int) == 3) = false := by simp; omega
  have h3' : ((k : Int) != 3) = true := by simp; omega
  have h4' : ((k : Int) != 4) = true := by simp; omega
  clear hh
  by_cases hv : 32 < v.length
  · have Hv := Lib.hid (body_value' (r := ⟨k, n, e, l, v⟩) (names_0' _) hv)
    have hv' : decide ((32 : Int) < (v.length : Int)) = true := decide_eq_true (by omega)
    go_enter Tryd.func23, Tryd.ntmps23
    go_wp2_with (first
        | (go_at_call 79; refine (in_ok _ _ _ _).mono ?_; rintro e1 w1 ⟨rfl, rfl⟩)
        | (go_at_call 80; refine (Hnm.out _).mono ?_; rintro e1 w1 ⟨rfl, rfl⟩)
        | (go_at_call 81; refine (nameFault_ok _ A n a).mono ?_; rintro e1 w1 ⟨rfl, rfl⟩)
        | (go_at_call 82; (with_reducible refine (keyFault_ok _ B e b).mono ?_); rintro e1 w1 ⟨rfl, rfl⟩)
        | (go_at_call 82; (with_reducible refine (keyFault_ok _ C l c).mono ?_); rintro e1 w1 ⟨rfl, rfl⟩))
    go_ret
    exact ⟨ret_int (by rw [Hv.out]), by repeat' (first | exact Below.refl _ _ | assumption | refine Below.drew ?_ | refine below_drewN ?_ _ | refine Below.alloc ?_ (by first | exact Nat.le_refl _ | omega | (simp; done) | (simp; omega)) _)⟩
  · have Hb := Lib.hid (body_parts' (r := ⟨k, n, e, l, v⟩) (names_0' _) (by show v.length ≤ 32; omega))
    have hv' : decide ((32 : Int) < (v.length : Int)) = false := decide_eq_false (by omega)
    have hw : IntKind.i64.wrap ((n.length : Int) + (e.length : Int)) = (n.length : Int) + (e.length : Int) := IntWalk.i64_in _ (by unfold big at hbn hbe; omega)
    by_cases ht : 0 < n.length + e.length
    · have h00 : partsFault 0 ⟨k, n, e, l, v⟩ = 4 := by
        by_cases h0 : 0 < n.length
        · exact parts_4 0 (by decide) (by decide) h0
        · exact parts_4 1 (by decide) (by decide) (by show 0 < e.length; omega)
      have Hv := Lib.hid (show bodyFault 0 ⟨k, n, e, l, v⟩ = 4 from Hb.out.trans h00)
      have ht' : decide ((0 : Int) < (n.length : Int) + (e.length : Int)) = true := decide_eq_true (by omega)
      go_enter Tryd.func23, Tryd.ntmps23
      go_wp2_with (first
          | (go_at_call 79; refine (in_ok _ _ _ _).mono ?_; rintro e1 w1 ⟨rfl, rfl⟩)
          | (go_at_call 80; refine (Hnm.out _).mono ?_; rintro e1 w1 ⟨rfl, rfl⟩)
          | (go_at_call 81; refine (nameFault_ok _ A n a).mono ?_; rintro e1 w1 ⟨rfl, rfl⟩)
          | (go_at_call 82; (with_reducible refine (keyFault_ok _ B e b).mono ?_); rintro e1 w1 ⟨rfl, rfl⟩)
          | (go_at_call 82; (with_reducible refine (keyFault_ok _ C l c).mono ?_); rintro e1 w1 ⟨rfl, rfl⟩))
      go_ret
      exact ⟨ret_int (by rw [Hv.out]), by repeat' (first | exact Below.refl _ _ | assumption | refine Below.drew ?_ | refine below_drewN ?_ _ | refine Below.alloc ?_ (by first | exact Nat.le_refl _ | omega | (simp; done) | (simp; omega)) _)⟩
    · have ht0 : decide ((0 : Int) < (n.length : Int) + (e.length : Int)) = false := decide_eq_false (by omega)
      have h0 : ¬ 0 < n.length ∧ ¬ 0 < e.length := by omega
      by_cases hl : 0 < l.length
      · have Hv := Lib.hid (show bodyFault 0 ⟨k, n, e, l, v⟩ = 4 from Hb.out.trans (parts_4 2 (by decide) (by decide) hl))
        have ht' : decide ((0 : Int) < (l.length : Int)) = true := decide_eq_true (by omega)
        go_enter Tryd.func23, Tryd.ntmps23
        go_wp2_with (first
            | (go_at_call 79; refine (in_ok _ _ _ _).mono ?_; rintro e1 w1 ⟨rfl, rfl⟩)
            | (go_at_call 80; refine (Hnm.out _).mono ?_; rintro e1 w1 ⟨rfl, rfl⟩)
            | (go_at_call 81; refine (nameFault_ok _ A n a).mono ?_; rintro e1 w1 ⟨rfl, rfl⟩)
            | (go_at_call 82; (with_reducible refine (keyFault_ok _ B e b).mono ?_); rintro e1 w1 ⟨rfl, rfl⟩)
            | (go_at_call 82; (with_reducible refine (keyFault_ok _ C l c).mono ?_); rintro e1 w1 ⟨rfl, rfl⟩))
        go_ret
        exact ⟨ret_int (by rw [Hv.out]), by repeat' (first | exact Below.refl _ _ | assumption | refine Below.drew ?_ | refine below_drewN ?_ _ | refine Below.alloc ?_ (by first | exact Nat.le_refl _ | omega | (simp; done) | (simp; omega)) _)⟩
      · have htl : decide ((0 : Int) < (l.length : Int)) = false := decide_eq_false (by omega)
        by_cases hv2 : 0 < v.length
        · have Hv := Lib.hid (show bodyFault 0 ⟨k, n, e, l, v⟩ = 4 from Hb.out.trans (parts_4 3 (by decide) (by decide) hv2))
          have ht' : decide ((0 : Int) < (v.length : Int)) = true := decide_eq_true (by omega)
          go_enter Tryd.func23, Tryd.ntmps23
          go_wp2_with (first
              | (go_at_call 79; refine (in_ok _ _ _ _).mono ?_; rintro e1 w1 ⟨rfl, rfl⟩)
              | (go_at_call 80; refine (Hnm.out _).mono ?_; rintro e1 w1 ⟨rfl, rfl⟩)
              | (go_at_call 81; refine (nameFault_ok _ A n a).mono ?_; rintro e1 w1 ⟨rfl, rfl⟩)
              | (go_at_call 82; (with_reducible refine (keyFault_ok _ B e b).mono ?_); rintro e1 w1 ⟨rfl, rfl⟩)
              | (go_at_call 82; (with_reducible refine (keyFault_ok _ C l c).mono ?_); rintro e1 w1 ⟨rfl, rfl⟩))
          go_ret
          exact ⟨ret_int (by rw [Hv.out]), by repeat' (first | exact Below.refl _ _ | assumption | refine Below.drew ?_ | refine below_drewN ?_ _ | refine Below.alloc ?_ (by first | exact Nat.le_refl _ | omega | (simp; done) | (simp; omega)) _)⟩
        · have htv : decide ((0 : Int) < (v.length : Int)) = false := decide_eq_false (by omega)
          have h00 : partsFault 0 ⟨k, n, e, l, v⟩ = 0 := parts_0 fun j hj hb => by
            rcases (by omega : j = 0 ∨ j = 1 ∨ j = 2 ∨ j = 3) with rfl | rfl | rfl | rfl <;> first | exact absurd hb (by decide) | skip
            · exact h0.1
            · exact h0.2
            · exact hl
            · exact hv2
          have Hv := Lib.hid (show bodyFault 0 ⟨k, n, e, l, v⟩ = 0 from Hb.out.trans h00)
          clear h00
          go_enter Tryd.func23, Tryd.ntmps23
          go_wp2_with (first
              | (go_at_call 79; refine (in_ok _ _ _ _).mono ?_; rintro e1 w1 ⟨rfl, rfl⟩)
              | (go_at_call 80; refine (Hnm.out _).mono ?_; rintro e1 w1 ⟨rfl, rfl⟩)
              | (go_at_call 81; refine (nameFault_ok _ A n a).mono ?_; rintro e1 w1 ⟨rfl, rfl⟩)
              | (go_at_call 82; (with_reducible refine (keyFault_ok _ B e b).mono ?_); rintro e1 w1 ⟨rfl, rfl⟩)
              | (go_at_call 82; (with_reducible refine (keyFault_ok _ C l c).mono ?_); rintro e1 w1 ⟨rfl, rfl⟩))
          go_ret
          exact ⟨ret_int (by rw [Hv.out]), by repeat' (first | exact Below.refl _ _ | assumption | refine Below.drew ?_ | refine below_drewN ?_ _ | refine Below.alloc ?_ (by first | exact Nat.le_refl _ | omega | (simp; done) | (simp; omega)) _)⟩
set_option maxRecDepth 100000 in
set_option maxHeartbeats 4000000 in
theorem rqFault_3 (w : World) (A B C D : Option Addr) (n e l v : List UInt8) (a b c d : Nat) (k : Nat) (hk1 : 1 ≤ k) (hk8 : k ≤ 8) (hh : hasS k = 3) (hk3 : k ≠ 3) (hk4 : k ≠ 4) :
    Calls Tryd.prog 23 #[.agg #[.int .i64 k, .slice A n.length a, .slice B e.length b, .slice C l.length c, .slice D v.length d]] w (RetV w (.int .i64 (bodyFault 3 ⟨k, n, e, l, v⟩))) := by
  have Hnm := Lib.hid (show ∀ W : World, Calls Tryd.prog 80 #[.int .i64 k] W (fun e w' => e = .returned (.bool true) ∧ w' = W) from fun W => by have h := named_ok W k hk1 hk8; rw [named_of hh] at h; exact h)
  have hi : (decide ((1 : Int) ≤ (k : Int)) && decide ((k : Int) ≤ 8)) = true := by simp; omega
  have h3 : ((k : Int) == 3) = false := by simp; omega
  have h3' : ((k : Int) != 3) = true := by simp; omega
  have h4' : ((k : Int) != 4) = true := by simp; omega
  clear hh
  by_cases hn : nameFault n = 0
  · have Hn := Lib.hid hn
    by_cases hk : keyFault e = 0
    · have Hk := Lib.hid hk
      have Hnn := Lib.hid (show namesFault 3 ⟨k, n, e, l, v⟩ = 0 by rw [names_3', if_neg (by simpa using hn)]; exact hk)
      clear hn hk
      by_cases hv : 32 < v.length
      · have Hv := Lib.hid (body_value' (r := ⟨k, n, e, l, v⟩) Hnn.out hv)
        have hv' : decide ((32 : Int) < (v.length : Int)) = true := decide_eq_true (by omega)
        go_enter Tryd.func23, Tryd.ntmps23
        go_wp2_with (first
            | (go_at_call 79; refine (in_ok _ _ _ _).mono ?_; rintro e1 w1 ⟨rfl, rfl⟩)
            | (go_at_call 80; refine (Hnm.out _).mono ?_; rintro e1 w1 ⟨rfl, rfl⟩)
            | (go_at_call 81; refine (nameFault_ok _ A n a).mono ?_; rintro e1 w1 ⟨rfl, rfl⟩; rw [Hn.out])
            | (go_at_call 82; (with_reducible refine (keyFault_ok _ B e b).mono ?_); rintro e1 w1 ⟨rfl, rfl⟩; rw [Hk.out])
            | (go_at_call 82; (with_reducible refine (keyFault_ok _ C l c).mono ?_); rintro e1 w1 ⟨rfl, rfl⟩))
        go_ret
        exact ⟨ret_int (by rw [Hv.out]), by repeat' (first | exact Below.refl _ _ | assumption | refine Below.drew ?_ | refine below_drewN ?_ _ | refine Below.alloc ?_ (by first | exact Nat.le_refl _ | omega | (simp; done) | (simp; omega)) _)⟩
      · have Hb := Lib.hid (body_parts' (r := ⟨k, n, e, l, v⟩) Hnn.out (by show v.length ≤ 32; omega))
        have hv' : decide ((32 : Int) < (v.length : Int)) = false := decide_eq_false (by omega)
        by_cases hl : 0 < l.length
        · have Hv := Lib.hid (show bodyFault 3 ⟨k, n, e, l, v⟩ = 4 from Hb.out.trans (parts_4 2 (by decide) (by decide) hl))
          have ht' : decide ((0 : Int) < (l.length : Int)) = true := decide_eq_true (by omega)
          go_enter Tryd.func23, Tryd.ntmps23
          go_wp2_with (first
              | (go_at_call 79; refine (in_ok _ _ _ _).mono ?_; rintro e1 w1 ⟨rfl, rfl⟩)
              | (go_at_call 80; refine (Hnm.out _).mono ?_; rintro e1 w1 ⟨rfl, rfl⟩)
              | (go_at_call 81; refine (nameFault_ok _ A n a).mono ?_; rintro e1 w1 ⟨rfl, rfl⟩; rw [Hn.out])
              | (go_at_call 82; (with_reducible refine (keyFault_ok _ B e b).mono ?_); rintro e1 w1 ⟨rfl, rfl⟩; rw [Hk.out])
              | (go_at_call 82; (with_reducible refine (keyFault_ok _ C l c).mono ?_); rintro e1 w1 ⟨rfl, rfl⟩))
          go_ret
          exact ⟨ret_int (by rw [Hv.out]), by repeat' (first | exact Below.refl _ _ | assumption | refine Below.drew ?_ | refine below_drewN ?_ _ | refine Below.alloc ?_ (by first | exact Nat.le_refl _ | omega | (simp; done) | (simp; omega)) _)⟩
        · have htl : decide ((0 : Int) < (l.length : Int)) = false := decide_eq_false (by omega)
          by_cases hv2 : 0 < v.length
          · have Hv := Lib.hid (show bodyFault 3 ⟨k, n, e, l, v⟩ = 4 from Hb.out.trans (parts_4 3 (by decide) (by decide) hv2))
            have ht' : decide ((0 : Int) < (v.length : Int)) = true := decide_eq_true (by omega)
            go_enter Tryd.func23, Tryd.ntmps23
            go_wp2_with (first
                | (go_at_call 79; refine (in_ok _ _ _ _).mono ?_; rintro e1 w1 ⟨rfl, rfl⟩)
                | (go_at_call 80; refine (Hnm.out _).mono ?_; rintro e1 w1 ⟨rfl, rfl⟩)
                | (go_at_call 81; refine (nameFault_ok _ A n a).mono ?_; rintro e1 w1 ⟨rfl, rfl⟩; rw [Hn.out])
                | (go_at_call 82; (with_reducible refine (keyFault_ok _ B e b).mono ?_); rintro e1 w1 ⟨rfl, rfl⟩; rw [Hk.out])
                | (go_at_call 82; (with_reducible refine (keyFault_ok _ C l c).mono ?_); rintro e1 w1 ⟨rfl, rfl⟩))
            go_ret
            exact ⟨ret_int (by rw [Hv.out]), by repeat' (first | exact Below.refl _ _ | assumption | refine Below.drew ?_ | refine below_drewN ?_ _ | refine Below.alloc ?_ (by first | exact Nat.le_refl _ | omega | (simp; done) | (simp; omega)) _)⟩
          · have htv : decide ((0 : Int) < (v.length : Int)) = false := decide_eq_false (by omega)
            have h00 : partsFault 3 ⟨k, n, e, l, v⟩ = 0 := parts_0 fun j hj hb => by
              rcases (by omega : j = 0 ∨ j = 1 ∨ j = 2 ∨ j = 3) with rfl | rfl | rfl | rfl <;> first | exact absurd hb (by decide) | skip
              · exact hl
              · exact hv2
            have Hv := Lib.hid (show bodyFault 3 ⟨k, n, e, l, v⟩ = 0 from Hb.out.trans h00)
            clear h00
            go_enter Tryd.func23, Tryd.ntmps23
            go_wp2_with (first
                | (go_at_call 79; refine (in_ok _ _ _ _).mono ?_; rintro e1 w1 ⟨rfl, rfl⟩)
                | (go_at_call 80; refine (Hnm.out _).mono ?_; rintro e1 w1 ⟨rfl, rfl⟩)
                | (go_at_call 81; refine (nameFault_ok _ A n a).mono ?_; rintro e1 w1 ⟨rfl, rfl⟩; rw [Hn.out])
                | (go_at_call 82; (with_reducible refine (keyFault_ok _ B e b).mono ?_); rintro e1 w1 ⟨rfl, rfl⟩; rw [Hk.out])
                | (go_at_call 82; (with_reducible refine (keyFault_ok _ C l c).mono ?_); rintro e1 w1 ⟨rfl, rfl⟩))
            go_ret
            exact ⟨ret_int (by rw [Hv.out]), by repeat' (first | exact Below.refl _ _ | assumption | refine Below.drew ?_ | refine below_drewN ?_ _ | refine Below.alloc ?_ (by first | exact Nat.le_refl _ | omega | (simp; done) | (simp; omega)) _)⟩
    · have hf : namesFault 3 ⟨k, n, e, l, v⟩ = keyFault e := by rw [names_3', if_neg (by simpa using hn)]
      have Hv := Lib.hid ((body_names' (r := ⟨k, n, e, l, v⟩) (h := 3) (by rw [hf]; exact hk)).trans hf)
      have hk' : (keyFault e != 0) = true := by simpa using hk
      have hk'' : (keyFault e == 0) = false := by simpa using hk
      clear hn hk hf
      go_enter Tryd.func23, Tryd.ntmps23
      go_wp2_with (first
          | (go_at_call 79; refine (in_ok _ _ _ _).mono ?_; rintro e1 w1 ⟨rfl, rfl⟩)
          | (go_at_call 80; refine (Hnm.out _).mono ?_; rintro e1 w1 ⟨rfl, rfl⟩)
          | (go_at_call 81; refine (nameFault_ok _ A n a).mono ?_; rintro e1 w1 ⟨rfl, rfl⟩; rw [Hn.out])
          | (go_at_call 82; (with_reducible refine (keyFault_ok _ B e b).mono ?_); rintro e1 w1 ⟨rfl, rfl⟩)
          | (go_at_call 82; (with_reducible refine (keyFault_ok _ C l c).mono ?_); rintro e1 w1 ⟨rfl, rfl⟩))
      go_ret
      exact ⟨ret_int (by rw [Hv.out]), by repeat' (first | exact Below.refl _ _ | assumption | refine Below.drew ?_ | refine below_drewN ?_ _ | refine Below.alloc ?_ (by first | exact Nat.le_refl _ | omega | (simp; done) | (simp; omega)) _)⟩
  · have hf : namesFault 3 ⟨k, n, e, l, v⟩ = nameFault n := by rw [names_3', if_pos (by exact hn)]
    have Hv := Lib.hid ((body_names' (r := ⟨k, n, e, l, v⟩) (h := 3) (by rw [hf]; exact hn)).trans hf)
    have hn' : (nameFault n != 0) = true := by simpa using hn
    have hn'' : (nameFault n == 0) = false := by simpa using hn
    clear hn hf
    go_enter Tryd.func23, Tryd.ntmps23
    go_wp2_with (first
        | (go_at_call 79; refine (in_ok _ _ _ _).mono ?_; rintro e1 w1 ⟨rfl, rfl⟩)
        | (go_at_call 80; refine (Hnm.out _).mono ?_; rintro e1 w1 ⟨rfl, rfl⟩)
        | (go_at_call 81; refine (nameFault_ok _ A n a).mono ?_; rintro e1 w1 ⟨rfl, rfl⟩)
        | (go_at_call 82; (with_reducible refine (keyFault_ok _ B e b).mono ?_); rintro e1 w1 ⟨rfl, rfl⟩)
        | (go_at_call 82; (with_reducible refine (keyFault_ok _ C l c).mono ?_); rintro e1 w1 ⟨rfl, rfl⟩))
    go_ret
    exact ⟨ret_int (by rw [Hv.out]), by repeat' (first | exact Below.refl _ _ | assumption | refine Below.drew ?_ | refine below_drewN ?_ _ | refine Below.alloc ?_ (by first | exact Nat.le_refl _ | omega | (simp; done) | (simp; omega)) _)⟩
set_option maxRecDepth 100000 in
set_option maxHeartbeats 4000000 in
theorem rqFault_7 (w : World) (A B C D : Option Addr) (n e l v : List UInt8) (a b c d : Nat) :
    Calls Tryd.prog 23 #[.agg #[.int .i64 3, .slice A n.length a, .slice B e.length b, .slice C l.length c, .slice D v.length d]] w (RetV w (.int .i64 (bodyFault 7 ⟨3, n, e, l, v⟩))) := by
  have Hnm := Lib.hid (show ∀ W : World, Calls Tryd.prog 80 #[.int .i64 3] W (fun e w' => e = .returned (.bool true) ∧ w' = W) from fun W => named_ok W 3 (by decide) (by decide))
  by_cases hn : nameFault n = 0
  · have Hn := Lib.hid hn
    by_cases hk : keyFault e = 0
    · have Hk := Lib.hid hk
      by_cases hl : keyFault l = 0
      · have Hl := Lib.hid hl
        have Hnn := Lib.hid (show namesFault 7 ⟨3, n, e, l, v⟩ = 0 by rw [names_7', if_neg (by simpa using hn), if_neg (by simpa using hk)]; exact hl)
        clear hn hk hl
        by_cases hv : 32 < v.length
        · have Hv := Lib.hid (body_value' (r := ⟨3, n, e, l, v⟩) Hnn.out hv)
          have hv' : decide ((32 : Int) < (v.length : Int)) = true := decide_eq_true (by omega)
          go_enter Tryd.func23, Tryd.ntmps23
          go_wp2_with (first
              | (go_at_call 79; refine (in_ok _ _ _ _).mono ?_; rintro e1 w1 ⟨rfl, rfl⟩)
              | (go_at_call 80; refine (Hnm.out _).mono ?_; rintro e1 w1 ⟨rfl, rfl⟩)
              | (go_at_call 81; refine (nameFault_ok _ A n a).mono ?_; rintro e1 w1 ⟨rfl, rfl⟩; rw [Hn.out])
              | (go_at_call 82; (with_reducible refine (keyFault_ok _ B e b).mono ?_); rintro e1 w1 ⟨rfl, rfl⟩; rw [Hk.out])
              | (go_at_call 82; (with_reducible refine (keyFault_ok _ C l c).mono ?_); rintro e1 w1 ⟨rfl, rfl⟩; rw [Hl.out]))
          go_ret
          exact ⟨ret_int (by rw [Hv.out]), by repeat' (first | exact Below.refl _ _ | assumption | refine Below.drew ?_ | refine below_drewN ?_ _ | refine Below.alloc ?_ (by first | exact Nat.le_refl _ | omega | (simp; done) | (simp; omega)) _)⟩
        · have Hb := Lib.hid (body_parts' (r := ⟨3, n, e, l, v⟩) Hnn.out (by show v.length ≤ 32; omega))
          have hv' : decide ((32 : Int) < (v.length : Int)) = false := decide_eq_false (by omega)
          by_cases hv2 : 0 < v.length
          · have Hv := Lib.hid (show bodyFault 7 ⟨3, n, e, l, v⟩ = 4 from Hb.out.trans (parts_4 3 (by decide) (by decide) hv2))
            have ht' : decide ((0 : Int) < (v.length : Int)) = true := decide_eq_true (by omega)
            go_enter Tryd.func23, Tryd.ntmps23
            go_wp2_with (first
                | (go_at_call 79; refine (in_ok _ _ _ _).mono ?_; rintro e1 w1 ⟨rfl, rfl⟩)
                | (go_at_call 80; refine (Hnm.out _).mono ?_; rintro e1 w1 ⟨rfl, rfl⟩)
                | (go_at_call 81; refine (nameFault_ok _ A n a).mono ?_; rintro e1 w1 ⟨rfl, rfl⟩; rw [Hn.out])
                | (go_at_call 82; (with_reducible refine (keyFault_ok _ B e b).mono ?_); rintro e1 w1 ⟨rfl, rfl⟩; rw [Hk.out])
                | (go_at_call 82; (with_reducible refine (keyFault_ok _ C l c).mono ?_); rintro e1 w1 ⟨rfl, rfl⟩; rw [Hl.out]))
            go_ret
            exact ⟨ret_int (by rw [Hv.out]), by repeat' (first | exact Below.refl _ _ | assumption | refine Below.drew ?_ | refine below_drewN ?_ _ | refine Below.alloc ?_ (by first | exact Nat.le_refl _ | omega | (simp; done) | (simp; omega)) _)⟩
          · have htv : decide ((0 : Int) < (v.length : Int)) = false := decide_eq_false (by omega)
            have h00 : partsFault 7 ⟨3, n, e, l, v⟩ = 0 := parts_0 fun j hj hb => by
              rcases (by omega : j = 0 ∨ j = 1 ∨ j = 2 ∨ j = 3) with rfl | rfl | rfl | rfl <;> first | exact absurd hb (by decide) | skip
              · exact hv2
            have Hv := Lib.hid (show bodyFault 7 ⟨3, n, e, l, v⟩ = 0 from Hb.out.trans h00)
            clear h00
            go_enter Tryd.func23, Tryd.ntmps23
            go_wp2_with (first
                | (go_at_call 79; refine (in_ok _ _ _ _).mono ?_; rintro e1 w1 ⟨rfl, rfl⟩)
                | (go_at_call 80; refine (Hnm.out _).mono ?_; rintro e1 w1 ⟨rfl, rfl⟩)
                | (go_at_call 81; refine (nameFault_ok _ A n a).mono ?_; rintro e1 w1 ⟨rfl, rfl⟩; rw [Hn.out])
                | (go_at_call 82; (with_reducible refine (keyFault_ok _ B e b).mono ?_); rintro e1 w1 ⟨rfl, rfl⟩; rw [Hk.out])
                | (go_at_call 82; (with_reducible refine (keyFault_ok _ C l c).mono ?_); rintro e1 w1 ⟨rfl, rfl⟩; rw [Hl.out]))
            go_ret
            exact ⟨ret_int (by rw [Hv.out]), by repeat' (first | exact Below.refl _ _ | assumption | refine Below.drew ?_ | refine below_drewN ?_ _ | refine Below.alloc ?_ (by first | exact Nat.le_refl _ | omega | (simp; done) | (simp; omega)) _)⟩
      · have hf : namesFault 7 ⟨3, n, e, l, v⟩ = keyFault l := by rw [names_7', if_neg (by simpa using hn), if_neg (by simpa using hk)]
        have Hv := Lib.hid ((body_names' (r := ⟨3, n, e, l, v⟩) (h := 7) (by rw [hf]; exact hl)).trans hf)
        have hl' : (keyFault l != 0) = true := by simpa using hl
        clear hn hk hl hf
        go_enter Tryd.func23, Tryd.ntmps23
        go_wp2_with (first
            | (go_at_call 79; refine (in_ok _ _ _ _).mono ?_; rintro e1 w1 ⟨rfl, rfl⟩)
            | (go_at_call 80; refine (Hnm.out _).mono ?_; rintro e1 w1 ⟨rfl, rfl⟩)
            | (go_at_call 81; refine (nameFault_ok _ A n a).mono ?_; rintro e1 w1 ⟨rfl, rfl⟩; rw [Hn.out])
            | (go_at_call 82; (with_reducible refine (keyFault_ok _ B e b).mono ?_); rintro e1 w1 ⟨rfl, rfl⟩; rw [Hk.out])
            | (go_at_call 82; (with_reducible refine (keyFault_ok _ C l c).mono ?_); rintro e1 w1 ⟨rfl, rfl⟩))
        go_ret
        exact ⟨ret_int (by rw [Hv.out]), by repeat' (first | exact Below.refl _ _ | assumption | refine Below.drew ?_ | refine below_drewN ?_ _ | refine Below.alloc ?_ (by first | exact Nat.le_refl _ | omega | (simp; done) | (simp; omega)) _)⟩
    · have hf : namesFault 7 ⟨3, n, e, l, v⟩ = keyFault e := by rw [names_7', if_neg (by simpa using hn)]; exact if_pos hk
      have Hv := Lib.hid ((body_names' (r := ⟨3, n, e, l, v⟩) (h := 7) (by rw [hf]; exact hk)).trans hf)
      have hk' : (keyFault e != 0) = true := by simpa using hk
      have hk'' : (keyFault e == 0) = false := by simpa using hk
      clear hn hk hf
      go_enter Tryd.func23, Tryd.ntmps23
      go_wp2_with (first
          | (go_at_call 79; refine (in_ok _ _ _ _).mono ?_; rintro e1 w1 ⟨rfl, rfl⟩)
          | (go_at_call 80; refine (Hnm.out _).mono ?_; rintro e1 w1 ⟨rfl, rfl⟩)
          | (go_at_call 81; refine (nameFault_ok _ A n a).mono ?_; rintro e1 w1 ⟨rfl, rfl⟩; rw [Hn.out])
          | (go_at_call 82; (with_reducible refine (keyFault_ok _ B e b).mono ?_); rintro e1 w1 ⟨rfl, rfl⟩)
          | (go_at_call 82; (with_reducible refine (keyFault_ok _ C l c).mono ?_); rintro e1 w1 ⟨rfl, rfl⟩))
      go_ret
      exact ⟨ret_int (by rw [Hv.out]), by repeat' (first | exact Below.refl _ _ | assumption | refine Below.drew ?_ | refine below_drewN ?_ _ | refine Below.alloc ?_ (by first | exact Nat.le_refl _ | omega | (simp; done) | (simp; omega)) _)⟩
  · have hf : namesFault 7 ⟨3, n, e, l, v⟩ = nameFault n := by rw [names_7', if_pos (by exact hn)]
    have Hv := Lib.hid ((body_names' (r := ⟨3, n, e, l, v⟩) (h := 7) (by rw [hf]; exact hn)).trans hf)
    have hn' : (nameFault n != 0) = true := by simpa using hn
    have hn'' : (nameFault n == 0) = false := by simpa using hn
    clear hn hf
    go_enter Tryd.func23, Tryd.ntmps23
    go_wp2_with (first
        | (go_at_call 79; refine (in_ok _ _ _ _).mono ?_; rintro e1 w1 ⟨rfl, rfl⟩)
        | (go_at_call 80; refine (Hnm.out _).mono ?_; rintro e1 w1 ⟨rfl, rfl⟩)
        | (go_at_call 81; refine (nameFault_ok _ A n a).mono ?_; rintro e1 w1 ⟨rfl, rfl⟩)
        | (go_at_call 82; (with_reducible refine (keyFault_ok _ B e b).mono ?_); rintro e1 w1 ⟨rfl, rfl⟩)
        | (go_at_call 82; (with_reducible refine (keyFault_ok _ C l c).mono ?_); rintro e1 w1 ⟨rfl, rfl⟩))
    go_ret
    exact ⟨ret_int (by rw [Hv.out]), by repeat' (first | exact Below.refl _ _ | assumption | refine Below.drew ?_ | refine below_drewN ?_ _ | refine Below.alloc ?_ (by first | exact Nat.le_refl _ | omega | (simp; done) | (simp; omega)) _)⟩
set_option maxRecDepth 100000 in
set_option maxHeartbeats 4000000 in
theorem rqFault_11 (w : World) (A B C D : Option Addr) (n e l v : List UInt8) (a b c d : Nat) :
    Calls Tryd.prog 23 #[.agg #[.int .i64 4, .slice A n.length a, .slice B e.length b, .slice C l.length c, .slice D v.length d]] w (RetV w (.int .i64 (bodyFault 11 ⟨4, n, e, l, v⟩))) := by
  have Hnm := Lib.hid (show ∀ W : World, Calls Tryd.prog 80 #[.int .i64 4] W (fun e w' => e = .returned (.bool true) ∧ w' = W) from fun W => named_ok W 4 (by decide) (by decide))
  by_cases hn : nameFault n = 0
  · have Hn := Lib.hid hn
    by_cases hk : keyFault e = 0
    · have Hk := Lib.hid hk
      have Hnn := Lib.hid (show namesFault 11 ⟨4, n, e, l, v⟩ = 0 by rw [names_11', if_neg (by simpa using hn)]; exact hk)
      clear hn hk
      by_cases hv : 32 < v.length
      · have Hv := Lib.hid (body_value' (r := ⟨4, n, e, l, v⟩) Hnn.out hv)
        have hv' : decide ((32 : Int) < (v.length : Int)) = true := decide_eq_true (by omega)
        go_enter Tryd.func23, Tryd.ntmps23
        go_wp2_with (first
            | (go_at_call 79; refine (in_ok _ _ _ _).mono ?_; rintro e1 w1 ⟨rfl, rfl⟩)
            | (go_at_call 80; refine (Hnm.out _).mono ?_; rintro e1 w1 ⟨rfl, rfl⟩)
            | (go_at_call 81; refine (nameFault_ok _ A n a).mono ?_; rintro e1 w1 ⟨rfl, rfl⟩; rw [Hn.out])
            | (go_at_call 82; (with_reducible refine (keyFault_ok _ B e b).mono ?_); rintro e1 w1 ⟨rfl, rfl⟩; rw [Hk.out])
            | (go_at_call 82; (with_reducible refine (keyFault_ok _ C l c).mono ?_); rintro e1 w1 ⟨rfl, rfl⟩))
        go_ret
        exact ⟨ret_int (by rw [Hv.out]), by repeat' (first | exact Below.refl _ _ | assumption | refine Below.drew ?_ | refine below_drewN ?_ _ | refine Below.alloc ?_ (by first | exact Nat.le_refl _ | omega | (simp; done) | (simp; omega)) _)⟩
      · have Hb := Lib.hid (body_parts' (r := ⟨4, n, e, l, v⟩) Hnn.out (by show v.length ≤ 32; omega))
        have hv' : decide ((32 : Int) < (v.length : Int)) = false := decide_eq_false (by omega)
        by_cases hl : 0 < l.length
        · have Hv := Lib.hid (show bodyFault 11 ⟨4, n, e, l, v⟩ = 4 from Hb.out.trans (parts_4 2 (by decide) (by decide) hl))
          have ht' : decide ((0 : Int) < (l.length : Int)) = true := decide_eq_true (by omega)
          go_enter Tryd.func23, Tryd.ntmps23
          go_wp2_with (first
              | (go_at_call 79; refine (in_ok _ _ _ _).mono ?_; rintro e1 w1 ⟨rfl, rfl⟩)
              | (go_at_call 80; refine (Hnm.out _).mono ?_; rintro e1 w1 ⟨rfl, rfl⟩)
              | (go_at_call 81; refine (nameFault_ok _ A n a).mono ?_; rintro e1 w1 ⟨rfl, rfl⟩; rw [Hn.out])
              | (go_at_call 82; (with_reducible refine (keyFault_ok _ B e b).mono ?_); rintro e1 w1 ⟨rfl, rfl⟩; rw [Hk.out])
              | (go_at_call 82; (with_reducible refine (keyFault_ok _ C l c).mono ?_); rintro e1 w1 ⟨rfl, rfl⟩))
          go_ret
          exact ⟨ret_int (by rw [Hv.out]), by repeat' (first | exact Below.refl _ _ | assumption | refine Below.drew ?_ | refine below_drewN ?_ _ | refine Below.alloc ?_ (by first | exact Nat.le_refl _ | omega | (simp; done) | (simp; omega)) _)⟩
        · have htl : decide ((0 : Int) < (l.length : Int)) = false := decide_eq_false (by omega)
          have h00 : partsFault 11 ⟨4, n, e, l, v⟩ = 0 := parts_0 fun j hj hb => by
            rcases (by omega : j = 0 ∨ j = 1 ∨ j = 2 ∨ j = 3) with rfl | rfl | rfl | rfl <;> first | exact absurd hb (by decide) | skip
            · exact hl
          have Hv := Lib.hid (show bodyFault 11 ⟨4, n, e, l, v⟩ = 0 from Hb.out.trans h00)
          clear h00
          go_enter Tryd.func23, Tryd.ntmps23
          go_wp2_with (first
              | (go_at_call 79; refine (in_ok _ _ _ _).mono ?_; rintro e1 w1 ⟨rfl, rfl⟩)
              | (go_at_call 80; refine (Hnm.out _).mono ?_; rintro e1 w1 ⟨rfl, rfl⟩)
              | (go_at_call 81; refine (nameFault_ok _ A n a).mono ?_; rintro e1 w1 ⟨rfl, rfl⟩; rw [Hn.out])
              | (go_at_call 82; (with_reducible refine (keyFault_ok _ B e b).mono ?_); rintro e1 w1 ⟨rfl, rfl⟩; rw [Hk.out])
              | (go_at_call 82; (with_reducible refine (keyFault_ok _ C l c).mono ?_); rintro e1 w1 ⟨rfl, rfl⟩))
          go_ret
          exact ⟨ret_int (by rw [Hv.out]), by repeat' (first | exact Below.refl _ _ | assumption | refine Below.drew ?_ | refine below_drewN ?_ _ | refine Below.alloc ?_ (by first | exact Nat.le_refl _ | omega | (simp; done) | (simp; omega)) _)⟩
    · have hf : namesFault 11 ⟨4, n, e, l, v⟩ = keyFault e := by rw [names_11', if_neg (by simpa using hn)]
      have Hv := Lib.hid ((body_names' (r := ⟨4, n, e, l, v⟩) (h := 11) (by rw [hf]; exact hk)).trans hf)
      have hk' : (keyFault e != 0) = true := by simpa using hk
      have hk'' : (keyFault e == 0) = false := by simpa using hk
      clear hn hk hf
      go_enter Tryd.func23, Tryd.ntmps23
      go_wp2_with (first
          | (go_at_call 79; refine (in_ok _ _ _ _).mono ?_; rintro e1 w1 ⟨rfl, rfl⟩)
          | (go_at_call 80; refine (Hnm.out _).mono ?_; rintro e1 w1 ⟨rfl, rfl⟩)
          | (go_at_call 81; refine (nameFault_ok _ A n a).mono ?_; rintro e1 w1 ⟨rfl, rfl⟩; rw [Hn.out])
          | (go_at_call 82; (with_reducible refine (keyFault_ok _ B e b).mono ?_); rintro e1 w1 ⟨rfl, rfl⟩)
          | (go_at_call 82; (with_reducible refine (keyFault_ok _ C l c).mono ?_); rintro e1 w1 ⟨rfl, rfl⟩))
      go_ret
      exact ⟨ret_int (by rw [Hv.out]), by repeat' (first | exact Below.refl _ _ | assumption | refine Below.drew ?_ | refine below_drewN ?_ _ | refine Below.alloc ?_ (by first | exact Nat.le_refl _ | omega | (simp; done) | (simp; omega)) _)⟩
  · have hf : namesFault 11 ⟨4, n, e, l, v⟩ = nameFault n := by rw [names_11', if_pos (by exact hn)]
    have Hv := Lib.hid ((body_names' (r := ⟨4, n, e, l, v⟩) (h := 11) (by rw [hf]; exact hn)).trans hf)
    have hn' : (nameFault n != 0) = true := by simpa using hn
    have hn'' : (nameFault n == 0) = false := by simpa using hn
    clear hn hf
    go_enter Tryd.func23, Tryd.ntmps23
    go_wp2_with (first
        | (go_at_call 79; refine (in_ok _ _ _ _).mono ?_; rintro e1 w1 ⟨rfl, rfl⟩)
        | (go_at_call 80; refine (Hnm.out _).mono ?_; rintro e1 w1 ⟨rfl, rfl⟩)
        | (go_at_call 81; refine (nameFault_ok _ A n a).mono ?_; rintro e1 w1 ⟨rfl, rfl⟩)
        | (go_at_call 82; (with_reducible refine (keyFault_ok _ B e b).mono ?_); rintro e1 w1 ⟨rfl, rfl⟩)
        | (go_at_call 82; (with_reducible refine (keyFault_ok _ C l c).mono ?_); rintro e1 w1 ⟨rfl, rfl⟩))
    go_ret
    exact ⟨ret_int (by rw [Hv.out]), by repeat' (first | exact Below.refl _ _ | assumption | refine Below.drew ?_ | refine below_drewN ?_ _ | refine Below.alloc ?_ (by first | exact Nat.le_refl _ | omega | (simp; done) | (simp; omega)) _)⟩
set_option maxRecDepth 100000 in
set_option maxHeartbeats 4000000 in
theorem rqFault_ok (w : World) (A B C D : Option Addr) (r : Rq) (a b c d : Nat) (hbn : r.name.length ≤ big) (hbe : r.key.length ≤ big) :
    Calls Tryd.prog 23 #[.agg #[.int .i64 r.kind, .slice A r.name.length a, .slice B r.key.length b, .slice C r.last.length c, .slice D r.value.length d]] w (RetV w (.int .i64 (rqFault r))) := by
  obtain ⟨i, n, e, l, v⟩ := r
  by_cases hk : 1 ≤ i ∧ i ≤ 8
  · obtain ⟨k, rfl⟩ : ∃ k : Nat, i = k := ⟨i.toNat, by omega⟩
    have hv : rqFault ⟨k, n, e, l, v⟩ = bodyFault (hasS k) ⟨k, n, e, l, v⟩ := by unfold rqFault; rw [if_neg (by simpa using hk)]; rfl
    rw [hv]
    rcases kinds_of (k := k) (by omega) (by omega) with ⟨h, h3, h4⟩ | ⟨h, h3, h4⟩ | ⟨h, rfl⟩ | ⟨h, rfl⟩
    · rw [h]; exact rqFault_0 w A B C D n e l v a b c d k (by omega) (by omega) h h3 h4 hbn hbe
    · rw [h]; exact rqFault_3 w A B C D n e l v a b c d k (by omega) (by omega) h h3 h4
    · rw [h]; exact rqFault_7 w A B C D n e l v a b c d
    · rw [h]; exact rqFault_11 w A B C D n e l v a b c d
  · have hv : rqFault ⟨i, n, e, l, v⟩ = 5 := by unfold rqFault; rw [if_pos hk]
    rw [hv]
    have hi : (decide ((1 : Int) ≤ i) && decide (i ≤ 8)) = false := by
      rw [Bool.and_eq_false_iff, decide_eq_false_iff_not, decide_eq_false_iff_not]; omega
    clear hv hk
    go_enter Tryd.func23, Tryd.ntmps23
    go_wp2_with (go_at_call 79; refine (in_ok _ _ _ _).mono ?_; rintro e1 w1 ⟨rfl, rfl⟩)
    go_ret
    exact ⟨rfl, by repeat' (first | exact Below.refl _ _ | assumption | refine Below.drew ?_ | refine below_drewN ?_ _ | refine Below.alloc ?_ (by first | exact Nat.le_refl _ | omega | (simp; done) | (simp; omega)) _)⟩
end Go.Proofs.YtddppmhpdgecgaaDoor
