/- Walks: wire.Check. -/
import Derived.Test.YtddppmhpdgecgaaDoorRq
import Derived.Test.YtddppmhpdgecgaaDoorPairs
namespace Go.Proofs.YtddppmhpdgecgaaDoor
open Go.RowKit
set_option linter.unusedVariables false
set_option linter.unusedSimpArgs false

theorem has_cases {k : Nat} (h1 : 1 ≤ k) (h8 : k ≤ 8) : hasS k = 0 ∨ hasS k = 3 ∨ hasS k = 7 ∨ hasS k = 11 := by
  have : k = 1 ∨ k = 2 ∨ k = 3 ∨ k = 4 ∨ k = 5 ∨ k = 6 ∨ k = 7 ∨ k = 8 := by omega
  rcases this with rfl | rfl | rfl | rfl | rfl | rfl | rfl | rfl <;> decide
/-- The table 'has' lies where it should. -/
def HasAt (w : World) : Prop := ∀ k, k < 9 → w.cell? ⟨0, k, none⟩ = some (.int .i64 ((hasS k : Nat) : Int))
theorem HasAt.below {w w' : World} (h : HasAt w) (hb : Below w.heap.size w w') : HasAt w' := fun k hk => (hb.cell (World.block_lt_of_cell? w _ (h k hk))).trans (h k hk)
theorem names_0 (r : Rq) : namesFault 0 r = 0 := rfl
theorem names_3 (r : Rq) : namesFault 3 r = if nameFault r.name ≠ 0 then nameFault r.name else keyFault r.key := by
  by_cases h : keyFault r.key = 0 <;> simp [namesFault, h]
theorem names_7 (r : Rq) : namesFault 7 r = if nameFault r.name ≠ 0 then nameFault r.name else if keyFault r.key ≠ 0 then keyFault r.key else keyFault r.last := by
  simp [namesFault]
theorem names_11 (r : Rq) : namesFault 11 r = if nameFault r.name ≠ 0 then nameFault r.name else keyFault r.key := by
  by_cases h : keyFault r.key = 0 <;> simp [namesFault, h]
theorem body_names {h : Nat} {r : Rq} (hn : namesFault h r ≠ 0) : bodyFault h r = namesFault h r := by unfold bodyFault; rw [if_pos hn]
theorem body_value {h : Nat} {r : Rq} (hn : namesFault h r = 0) (hv : 32 < r.value.length) : bodyFault h r = 1 := by unfold bodyFault; rw [if_neg (by simp [hn]), if_pos hv]
theorem body_parts {h : Nat} {r : Rq} (hn : namesFault h r = 0) (hv : r.value.length ≤ 32) : bodyFault h r = partsFault h r := by unfold bodyFault; rw [if_neg (by simp [hn]), if_neg (by omega)]

set_option maxRecDepth 100000 in
set_option maxHeartbeats 4000000 in
theorem wireCheck_0 (w : World) (hT : HasAt w) (A B C D : Option Addr) (n e l v : List UInt8) (a b c d k : Nat) (hk1 : 1 ≤ k) (hk8 : k ≤ 8) (hh : hasS k = 0) :
    Calls Tryd.prog 21 #[.agg #[.int .i64 k, .slice A n.length a, .slice B e.length b, .slice C l.length c, .slice D v.length d]] w (RetV w (.int .i64 (bodyFault 0 ⟨k, n, e, l, v⟩))) := by
  have hcell : (w.alloc (.cells #[.int .i64 k, .slice A n.length a, .slice B e.length b, .slice C l.length c, .slice D v.length d] 24)).cell? ⟨0, k, none⟩ = some (.int .i64 0) := by
    have h1 := hT k (by omega)
    rw [hh] at h1
    exact (((Below.refl w.heap.size w).alloc (Nat.le_refl _) _).cell (World.block_lt_of_cell? w _ (hT k (by omega)))).trans h1
  have hka : ¬ (k : Int) < 1 := by omega
  have hkb : ¬ (8 : Int) < (k : Int) := by omega
  have hkc : (0 : Int) ≤ (k : Int) := by omega
  have hkd : (k : Int) < 9 := by omega
  have hke : k ≠ 0 := by omega
  have hkf : k < 9 := by omega
  have c0_1 : bits .and .i64 0 1 = 0 := by decide
  have c0_4 : bits .and .i64 0 4 = 0 := by decide
  have c0_1 : bits .and .i64 0 1 = 0 := by decide
  have c0_1 : bits .and .i64 0 1 = 0 := by decide
  have c0_1 : bits .and .i64 0 1 = 0 := by decide
  have x0 : ∀ W : World, (Instr.index 113 (.agg #[.slice A n.length a, .slice B e.length b, .slice C l.length c, .slice D v.length d]) (.int .i64 0)).run Tryd.prog W = .ok (.slice A n.length a) W := fun _ => by kernel_rfl
  have x1 : ∀ W : World, (Instr.index 113 (.agg #[.slice A n.length a, .slice B e.length b, .slice C l.length c, .slice D v.length d]) (.int .i64 1)).run Tryd.prog W = .ok (.slice B e.length b) W := fun _ => by kernel_rfl
  have x2 : ∀ W : World, (Instr.index 113 (.agg #[.slice A n.length a, .slice B e.length b, .slice C l.length c, .slice D v.length d]) (.int .i64 2)).run Tryd.prog W = .ok (.slice C l.length c) W := fun _ => by kernel_rfl
  have x3 : ∀ W : World, (Instr.index 113 (.agg #[.slice A n.length a, .slice B e.length b, .slice C l.length c, .slice D v.length d]) (.int .i64 3)).run Tryd.prog W = .ok (.slice D v.length d) W := fun _ => by kernel_rfl
  clear hT hh
  by_cases hv : 32 < v.length
  · have Hv := Lib.hid (body_value (r := ⟨k, n, e, l, v⟩) (names_0 _) hv)
    have hv' : decide ((32 : Int) < (v.length : Int)) = true := decide_eq_true (by omega)
    go_enter Tryd.func21, Tryd.ntmps21
    go_wp2_with (first
        | (go_at_call 77; refine (forestName_ok _ A n a).mono ?_; rintro e1 w1 ⟨rfl, rfl⟩)
        | (go_at_call 78; (with_reducible refine (pathCheck_ok _ B e b).mono ?_); rintro e1 w1 ⟨rfl, rfl⟩)
        | (go_at_call 78; (with_reducible refine (pathCheck_ok _ C l c).mono ?_); rintro e1 w1 ⟨rfl, rfl⟩))
    go_ret
    exact ⟨ret_int (by rw [Hv.out]), by repeat' (first | exact Below.refl _ _ | assumption | refine Below.drew ?_ | refine below_drewN ?_ _ | refine Below.alloc ?_ (by first | exact Nat.le_refl _ | omega | (simp; done) | (simp; omega)) _)⟩
  · have Hv := Lib.hid (body_parts (r := ⟨k, n, e, l, v⟩) (names_0 _) (by show v.length ≤ 32; omega))
    have hv' : decide ((32 : Int) < (v.length : Int)) = false := decide_eq_false (by omega)
    go_enter Tryd.func21, Tryd.ntmps21
    go_wp2_with (first
        | (go_at_call 77; refine (forestName_ok _ A n a).mono ?_; rintro e1 w1 ⟨rfl, rfl⟩)
        | (go_at_call 78; (with_reducible refine (pathCheck_ok _ B e b).mono ?_); rintro e1 w1 ⟨rfl, rfl⟩)
        | (go_at_call 78; (with_reducible refine (pathCheck_ok _ C l c).mono ?_); rintro e1 w1 ⟨rfl, rfl⟩))
    go_loopw [58] (fun i wr => ∃ j : Nat, j ≤ 4 ∧ i = .int .i64 j ∧ firstBad (partF 0 ⟨k, n, e, l, v⟩) (4 - j) j = partsFault 0 ⟨k, n, e, l, v⟩ ∧ Below w.heap.size w wr) (fun i _ => 4 - (intOf i).toNat)
    case atStart => exact ⟨0, by omega, rfl, rfl, (by repeat' (first | exact Below.refl _ _ | assumption | refine Below.drew ?_ | refine below_drewN ?_ _ | refine Below.alloc ?_ (by first | exact Nat.le_refl _ | omega | (simp; done) | (simp; omega)) _))⟩
    case round =>
      obtain ⟨j, hj, rfl, hval, hbel⟩ := hrel
      have Hval := Lib.hid hval
      have Hbel := Lib.hid hbel
      clear hval hbel
      rcases (by omega : j = 0 ∨ j = 1 ∨ j = 2 ∨ j = 3 ∨ j = 4) with rfl | rfl | rfl | rfl | rfl
      · by_cases hp : 0 < n.length
        · have hp' : decide ((0 : Int) < (n.length : Int)) = true := decide_eq_true (by omega)
          go_wp2
          go_ret
          exact ⟨ret_int (by rw [Hv.out, ← Hval.out, part_bad (h := 0) (r := ⟨k, n, e, l, v⟩) (j := 0) (by decide) (by decide) (by exact hp)]), Hbel.out⟩
        · have hp' : decide ((0 : Int) < (n.length : Int)) = false := decide_eq_false (by omega)
          have Hp := Lib.hid hp
          go_wp2
          go_roundw
          case rel => exact ⟨1, by omega, by go_num, by rw [← Hval.out, part_none (h := 0) (r := ⟨k, n, e, l, v⟩) (j := 0) (by decide) (by exact Hp.out)], Hbel.out⟩
          case measure => simp [intOf]
      · by_cases hp : 0 < e.length
        · have hp' : decide ((0 : Int) < (e.length : Int)) = true := decide_eq_true (by omega)
          go_wp2
          go_ret
          exact ⟨ret_int (by rw [Hv.out, ← Hval.out, part_bad (h := 0) (r := ⟨k, n, e, l, v⟩) (j := 1) (by decide) (by decide) (by exact hp)]), Hbel.out⟩
        · have hp' : decide ((0 : Int) < (e.length : Int)) = false := decide_eq_false (by omega)
          have Hp := Lib.hid hp
          go_wp2
          go_roundw
          case rel => exact ⟨2, by omega, by go_num, by rw [← Hval.out, part_none (h := 0) (r := ⟨k, n, e, l, v⟩) (j := 1) (by decide) (by exact Hp.out)], Hbel.out⟩
          case measure => simp [intOf]
      · by_cases hp : 0 < l.length
        · have hp' : decide ((0 : Int) < (l.length : Int)) = true := decide_eq_true (by omega)
          go_wp2
          go_ret
          exact ⟨ret_int (by rw [Hv.out, ← Hval.out, part_bad (h := 0) (r := ⟨k, n, e, l, v⟩) (j := 2) (by decide) (by decide) (by exact hp)]), Hbel.out⟩
        · have hp' : decide ((0 : Int) < (l.length : Int)) = false := decide_eq_false (by omega)
          have Hp := Lib.hid hp
          go_wp2
          go_roundw
          case rel => exact ⟨3, by omega, by go_num, by rw [← Hval.out, part_none (h := 0) (r := ⟨k, n, e, l, v⟩) (j := 2) (by decide) (by exact Hp.out)], Hbel.out⟩
          case measure => simp [intOf]
      · by_cases hp : 0 < v.length
        · have hp' : decide ((0 : Int) < (v.length : Int)) = true := decide_eq_true (by omega)
          go_wp2
          go_ret
          exact ⟨ret_int (by rw [Hv.out, ← Hval.out, part_bad (h := 0) (r := ⟨k, n, e, l, v⟩) (j := 3) (by decide) (by decide) (by exact hp)]), Hbel.out⟩
        · have hp' : decide ((0 : Int) < (v.length : Int)) = false := decide_eq_false (by omega)
          have Hp := Lib.hid hp
          go_wp2
          go_roundw
          case rel => exact ⟨4, by omega, by go_num, by rw [← Hval.out, part_none (h := 0) (r := ⟨k, n, e, l, v⟩) (j := 3) (by decide) (by exact Hp.out)], Hbel.out⟩
          case measure => simp [intOf]
      · go_wp2
        go_ret
        exact ⟨ret_int (by rw [Hv.out, ← Hval.out]; rfl), Hbel.out⟩
set_option maxRecDepth 100000 in
set_option maxHeartbeats 4000000 in
theorem wireCheck_3 (w : World) (hT : HasAt w) (A B C D : Option Addr) (n e l v : List UInt8) (a b c d k : Nat) (hk1 : 1 ≤ k) (hk8 : k ≤ 8) (hh : hasS k = 3) :
    Calls Tryd.prog 21 #[.agg #[.int .i64 k, .slice A n.length a, .slice B e.length b, .slice C l.length c, .slice D v.length d]] w (RetV w (.int .i64 (bodyFault 3 ⟨k, n, e, l, v⟩))) := by
  have hcell : (w.alloc (.cells #[.int .i64 k, .slice A n.length a, .slice B e.length b, .slice C l.length c, .slice D v.length d] 24)).cell? ⟨0, k, none⟩ = some (.int .i64 3) := by
    have h1 := hT k (by omega)
    rw [hh] at h1
    exact (((Below.refl w.heap.size w).alloc (Nat.le_refl _) _).cell (World.block_lt_of_cell? w _ (hT k (by omega)))).trans h1
  have hka : ¬ (k : Int) < 1 := by omega
  have hkb : ¬ (8 : Int) < (k : Int) := by omega
  have hkc : (0 : Int) ≤ (k : Int) := by omega
  have hkd : (k : Int) < 9 := by omega
  have hke : k ≠ 0 := by omega
  have hkf : k < 9 := by omega
  have c3_1 : bits .and .i64 3 1 = 1 := by decide
  have c3_4 : bits .and .i64 3 4 = 0 := by decide
  have c1_1 : bits .and .i64 1 1 = 1 := by decide
  have c0_1 : bits .and .i64 0 1 = 0 := by decide
  have c0_1 : bits .and .i64 0 1 = 0 := by decide
  have x0 : ∀ W : World, (Instr.index 113 (.agg #[.slice A n.length a, .slice B e.length b, .slice C l.length c, .slice D v.length d]) (.int .i64 0)).run Tryd.prog W = .ok (.slice A n.length a) W := fun _ => by kernel_rfl
  have x1 : ∀ W : World, (Instr.index 113 (.agg #[.slice A n.length a, .slice B e.length b, .slice C l.length c, .slice D v.length d]) (.int .i64 1)).run Tryd.prog W = .ok (.slice B e.length b) W := fun _ => by kernel_rfl
  have x2 : ∀ W : World, (Instr.index 113 (.agg #[.slice A n.length a, .slice B e.length b, .slice C l.length c, .slice D v.length d]) (.int .i64 2)).run Tryd.prog W = .ok (.slice C l.length c) W := fun _ => by kernel_rfl
  have x3 : ∀ W : World, (Instr.index 113 (.agg #[.slice A n.length a, .slice B e.length b, .slice C l.length c, .slice D v.length d]) (.int .i64 3)).run Tryd.prog W = .ok (.slice D v.length d) W := fun _ => by kernel_rfl
  clear hT hh
  by_cases hn : nameFault n = 0
  · have Hn := Lib.hid hn
    by_cases hk : keyFault e = 0
    · have Hk := Lib.hid hk
      have Hnm := Lib.hid (show namesFault 3 ⟨k, n, e, l, v⟩ = 0 by rw [names_3, if_neg (by simpa using hn)]; exact hk)
      clear hn hk
      by_cases hv : 32 < v.length
      · have Hv := Lib.hid (body_value (r := ⟨k, n, e, l, v⟩) Hnm.out hv)
        have hv' : decide ((32 : Int) < (v.length : Int)) = true := decide_eq_true (by omega)
        go_enter Tryd.func21, Tryd.ntmps21
        go_wp2_with (first
            | (go_at_call 77; refine (forestName_ok _ A n a).mono ?_; rintro e1 w1 ⟨rfl, rfl⟩; rw [Hn.out])
            | (go_at_call 78; (with_reducible refine (pathCheck_ok _ B e b).mono ?_); rintro e1 w1 ⟨rfl, rfl⟩; rw [Hk.out])
            | (go_at_call 78; (with_reducible refine (pathCheck_ok _ C l c).mono ?_); rintro e1 w1 ⟨rfl, rfl⟩))
        go_ret
        exact ⟨ret_int (by rw [Hv.out]), by repeat' (first | exact Below.refl _ _ | assumption | refine Below.drew ?_ | refine below_drewN ?_ _ | refine Below.alloc ?_ (by first | exact Nat.le_refl _ | omega | (simp; done) | (simp; omega)) _)⟩
      · have Hv := Lib.hid (body_parts (r := ⟨k, n, e, l, v⟩) Hnm.out (by show v.length ≤ 32; omega))
        have hv' : decide ((32 : Int) < (v.length : Int)) = false := decide_eq_false (by omega)
        go_enter Tryd.func21, Tryd.ntmps21
        go_wp2_with (first
            | (go_at_call 77; refine (forestName_ok _ A n a).mono ?_; rintro e1 w1 ⟨rfl, rfl⟩; rw [Hn.out])
            | (go_at_call 78; (with_reducible refine (pathCheck_ok _ B e b).mono ?_); rintro e1 w1 ⟨rfl, rfl⟩; rw [Hk.out])
            | (go_at_call 78; (with_reducible refine (pathCheck_ok _ C l c).mono ?_); rintro e1 w1 ⟨rfl, rfl⟩))
        go_loopw [58] (fun i wr => ∃ j : Nat, j ≤ 4 ∧ i = .int .i64 j ∧ firstBad (partF 3 ⟨k, n, e, l, v⟩) (4 - j) j = partsFault 3 ⟨k, n, e, l, v⟩ ∧ Below w.heap.size w wr) (fun i _ => 4 - (intOf i).toNat)
        case atStart => exact ⟨0, by omega, rfl, rfl, (by repeat' (first | exact Below.refl _ _ | assumption | refine Below.drew ?_ | refine below_drewN ?_ _ | refine Below.alloc ?_ (by first | exact Nat.le_refl _ | omega | (simp; done) | (simp; omega)) _))⟩
        case round =>
          obtain ⟨j, hj, rfl, hval, hbel⟩ := hrel
          have Hval := Lib.hid hval
          have Hbel := Lib.hid hbel
          clear hval hbel
          rcases (by omega : j = 0 ∨ j = 1 ∨ j = 2 ∨ j = 3 ∨ j = 4) with rfl | rfl | rfl | rfl | rfl
          · go_wp2
            go_roundw
            case rel => exact ⟨1, by omega, by go_num, by rw [← Hval.out, part_has (h := 3) (r := ⟨k, n, e, l, v⟩) (j := 0) (by decide) (by decide)], Hbel.out⟩
            case measure => simp [intOf]
          · go_wp2
            go_roundw
            case rel => exact ⟨2, by omega, by go_num, by rw [← Hval.out, part_has (h := 3) (r := ⟨k, n, e, l, v⟩) (j := 1) (by decide) (by decide)], Hbel.out⟩
            case measure => simp [intOf]
          · by_cases hp : 0 < l.length
            · have hp' : decide ((0 : Int) < (l.length : Int)) = true := decide_eq_true (by omega)
              go_wp2
              go_ret
              exact ⟨ret_int (by rw [Hv.out, ← Hval.out, part_bad (h := 3) (r := ⟨k, n, e, l, v⟩) (j := 2) (by decide) (by decide) (by exact hp)]), Hbel.out⟩
            · have hp' : decide ((0 : Int) < (l.length : Int)) = false := decide_eq_false (by omega)
              have Hp := Lib.hid hp
              go_wp2
              go_roundw
              case rel => exact ⟨3, by omega, by go_num, by rw [← Hval.out, part_none (h := 3) (r := ⟨k, n, e, l, v⟩) (j := 2) (by decide) (by exact Hp.out)], Hbel.out⟩
              case measure => simp [intOf]
          · by_cases hp : 0 < v.length
            · have hp' : decide ((0 : Int) < (v.length : Int)) = true := decide_eq_true (by omega)
              go_wp2
              go_ret
              exact ⟨ret_int (by rw [Hv.out, ← Hval.out, part_bad (h := 3) (r := ⟨k, n, e, l, v⟩) (j := 3) (by decide) (by decide) (by exact hp)]), Hbel.out⟩
            · have hp' : decide ((0 : Int) < (v.length : Int)) = false := decide_eq_false (by omega)
              have Hp := Lib.hid hp
              go_wp2
              go_roundw
              case rel => exact ⟨4, by omega, by go_num, by rw [← Hval.out, part_none (h := 3) (r := ⟨k, n, e, l, v⟩) (j := 3) (by decide) (by exact Hp.out)], Hbel.out⟩
              case measure => simp [intOf]
          · go_wp2
            go_ret
            exact ⟨ret_int (by rw [Hv.out, ← Hval.out]; rfl), Hbel.out⟩
    · have hf : namesFault 3 ⟨k, n, e, l, v⟩ = keyFault e := by rw [names_3, if_neg (by simpa using hn)]
      have Hv := Lib.hid ((body_names (r := ⟨k, n, e, l, v⟩) (h := 3) (by rw [hf]; exact hk)).trans hf)
      have hk' : (keyFault e != 0) = true := by simpa using hk
      clear hn hk hf
      go_enter Tryd.func21, Tryd.ntmps21
      go_wp2_with (first
          | (go_at_call 77; refine (forestName_ok _ A n a).mono ?_; rintro e1 w1 ⟨rfl, rfl⟩; rw [Hn.out])
          | (go_at_call 78; (with_reducible refine (pathCheck_ok _ B e b).mono ?_); rintro e1 w1 ⟨rfl, rfl⟩)
          | (go_at_call 78; (with_reducible refine (pathCheck_ok _ C l c).mono ?_); rintro e1 w1 ⟨rfl, rfl⟩))
      go_ret
      exact ⟨ret_int (by rw [Hv.out]), by repeat' (first | exact Below.refl _ _ | assumption | refine Below.drew ?_ | refine below_drewN ?_ _ | refine Below.alloc ?_ (by first | exact Nat.le_refl _ | omega | (simp; done) | (simp; omega)) _)⟩
  · have hf : namesFault 3 ⟨k, n, e, l, v⟩ = nameFault n := by rw [names_3, if_pos (by exact hn)]
    have Hv := Lib.hid ((body_names (r := ⟨k, n, e, l, v⟩) (h := 3) (by rw [hf]; exact hn)).trans hf)
    have hn' : (nameFault n != 0) = true := by simpa using hn
    clear hn hf
    go_enter Tryd.func21, Tryd.ntmps21
    go_wp2_with (first
        | (go_at_call 77; refine (forestName_ok _ A n a).mono ?_; rintro e1 w1 ⟨rfl, rfl⟩)
        | (go_at_call 78; (with_reducible refine (pathCheck_ok _ B e b).mono ?_); rintro e1 w1 ⟨rfl, rfl⟩)
        | (go_at_call 78; (with_reducible refine (pathCheck_ok _ C l c).mono ?_); rintro e1 w1 ⟨rfl, rfl⟩))
    go_ret
    exact ⟨ret_int (by rw [Hv.out]), by repeat' (first | exact Below.refl _ _ | assumption | refine Below.drew ?_ | refine below_drewN ?_ _ | refine Below.alloc ?_ (by first | exact Nat.le_refl _ | omega | (simp; done) | (simp; omega)) _)⟩
set_option maxRecDepth 100000 in
set_option maxHeartbeats 4000000 in
theorem wireCheck_7 (w : World) (hT : HasAt w) (A B C D : Option Addr) (n e l v : List UInt8) (a b c d k : Nat) (hk1 : 1 ≤ k) (hk8 : k ≤ 8) (hh : hasS k = 7) :
    Calls Tryd.prog 21 #[.agg #[.int .i64 k, .slice A n.length a, .slice B e.length b, .slice C l.length c, .slice D v.length d]] w (RetV w (.int .i64 (bodyFault 7 ⟨k, n, e, l, v⟩))) := by
  have hcell : (w.alloc (.cells #[.int .i64 k, .slice A n.length a, .slice B e.length b, .slice C l.length c, .slice D v.length d] 24)).cell? ⟨0, k, none⟩ = some (.int .i64 7) := by
    have h1 := hT k (by omega)
    rw [hh] at h1
    exact (((Below.refl w.heap.size w).alloc (Nat.le_refl _) _).cell (World.block_lt_of_cell? w _ (hT k (by omega)))).trans h1
  have hka : ¬ (k : Int) < 1 := by omega
  have hkb : ¬ (8 : Int) < (k : Int) := by omega
  have hkc : (0 : Int) ≤ (k : Int) := by omega
  have hkd : (k : Int) < 9 := by omega
  have hke : k ≠ 0 := by omega
  have hkf : k < 9 := by omega
  have c7_1 : bits .and .i64 7 1 = 1 := by decide
  have c7_4 : bits .and .i64 7 4 = 4 := by decide
  have c3_1 : bits .and .i64 3 1 = 1 := by decide
  have c1_1 : bits .and .i64 1 1 = 1 := by decide
  have c0_1 : bits .and .i64 0 1 = 0 := by decide
  have x0 : ∀ W : World, (Instr.index 113 (.agg #[.slice A n.length a, .slice B e.length b, .slice C l.length c, .slice D v.length d]) (.int .i64 0)).run Tryd.prog W = .ok (.slice A n.length a) W := fun _ => by kernel_rfl
  have x1 : ∀ W : World, (Instr.index 113 (.agg #[.slice A n.length a, .slice B e.length b, .slice C l.length c, .slice D v.length d]) (.int .i64 1)).run Tryd.prog W = .ok (.slice B e.length b) W := fun _ => by kernel_rfl
  have x2 : ∀ W : World, (Instr.index 113 (.agg #[.slice A n.length a, .slice B e.length b, .slice C l.length c, .slice D v.length d]) (.int .i64 2)).run Tryd.prog W = .ok (.slice C l.length c) W := fun _ => by kernel_rfl
  have x3 : ∀ W : World, (Instr.index 113 (.agg #[.slice A n.length a, .slice B e.length b, .slice C l.length c, .slice D v.length d]) (.int .i64 3)).run Tryd.prog W = .ok (.slice D v.length d) W := fun _ => by kernel_rfl
  clear hT hh
  by_cases hn : nameFault n = 0
  · have Hn := Lib.hid hn
    by_cases hk : keyFault e = 0
    · have Hk := Lib.hid hk
      by_cases hl : keyFault l = 0
      · have Hl := Lib.hid hl
        have Hnm := Lib.hid (show namesFault 7 ⟨k, n, e, l, v⟩ = 0 by rw [names_7, if_neg (by simpa using hn), if_neg (by simpa using hk)]; exact hl)
        clear hn hk hl
        by_cases hv : 32 < v.length
        · have Hv := Lib.hid (body_value (r := ⟨k, n, e, l, v⟩) Hnm.out hv)
          have hv' : decide ((32 : Int) < (v.length : Int)) = true := decide_eq_true (by omega)
          go_enter Tryd.func21, Tryd.ntmps21
          go_wp2_with (first
              | (go_at_call 77; refine (forestName_ok _ A n a).mono ?_; rintro e1 w1 ⟨rfl, rfl⟩; rw [Hn.out])
              | (go_at_call 78; (with_reducible refine (pathCheck_ok _ B e b).mono ?_); rintro e1 w1 ⟨rfl, rfl⟩; rw [Hk.out])
              | (go_at_call 78; (with_reducible refine (pathCheck_ok _ C l c).mono ?_); rintro e1 w1 ⟨rfl, rfl⟩; rw [Hl.out]))
          go_ret
          exact ⟨ret_int (by rw [Hv.out]), by repeat' (first | exact Below.refl _ _ | assumption | refine Below.drew ?_ | refine below_drewN ?_ _ | refine Below.alloc ?_ (by first | exact Nat.le_refl _ | omega | (simp; done) | (simp; omega)) _)⟩
        · have Hv := Lib.hid (body_parts (r := ⟨k, n, e, l, v⟩) Hnm.out (by show v.length ≤ 32; omega))
          have hv' : decide ((32 : Int) < (v.length : Int)) = false := decide_eq_false (by omega)
          go_enter Tryd.func21, Tryd.ntmps21
          go_wp2_with (first
              | (go_at_call 77; refine (forestName_ok _ A n a).mono ?_; rintro e1 w1 ⟨rfl, rfl⟩; rw [Hn.out])
              | (go_at_call 78; (with_reducible refine (pathCheck_ok _ B e b).mono ?_); rintro e1 w1 ⟨rfl, rfl⟩; rw [Hk.out])
              | (go_at_call 78; (with_reducible refine (pathCheck_ok _ C l c).mono ?_); rintro e1 w1 ⟨rfl, rfl⟩; rw [Hl.out]))
          go_loopw [58] (fun i wr => ∃ j : Nat, j ≤ 4 ∧ i = .int .i64 j ∧ firstBad (partF 7 ⟨k, n, e, l, v⟩) (4 - j) j = partsFault 7 ⟨k, n, e, l, v⟩ ∧ Below w.heap.size w wr) (fun i _ => 4 - (intOf i).toNat)
          case atStart => exact ⟨0, by omega, rfl, rfl, (by repeat' (first | exact Below.refl _ _ | assumption | refine Below.drew ?_ | refine below_drewN ?_ _ | refine Below.alloc ?_ (by first | exact Nat.le_refl _ | omega | (simp; done) | (simp; omega)) _))⟩
          case round =>
            obtain ⟨j, hj, rfl, hval, hbel⟩ := hrel
            have Hval := Lib.hid hval
            have Hbel := Lib.hid hbel
            clear hval hbel
            rcases (by omega : j = 0 ∨ j = 1 ∨ j = 2 ∨ j = 3 ∨ j = 4) with rfl | rfl | rfl | rfl | rfl
            · go_wp2
              go_roundw
              case rel => exact ⟨1, by omega, by go_num, by rw [← Hval.out, part_has (h := 7) (r := ⟨k, n, e, l, v⟩) (j := 0) (by decide) (by decide)], Hbel.out⟩
              case measure => simp [intOf]
            · go_wp2
              go_roundw
              case rel => exact ⟨2, by omega, by go_num, by rw [← Hval.out, part_has (h := 7) (r := ⟨k, n, e, l, v⟩) (j := 1) (by decide) (by decide)], Hbel.out⟩
              case measure => simp [intOf]
            · go_wp2
              go_roundw
              case rel => exact ⟨3, by omega, by go_num, by rw [← Hval.out, part_has (h := 7) (r := ⟨k, n, e, l, v⟩) (j := 2) (by decide) (by decide)], Hbel.out⟩
              case measure => simp [intOf]
            · by_cases hp : 0 < v.length
              · have hp' : decide ((0 : Int) < (v.length : Int)) = true := decide_eq_true (by omega)
                go_wp2
                go_ret
                exact ⟨ret_int (by rw [Hv.out, ← Hval.out, part_bad (h := 7) (r := ⟨k, n, e, l, v⟩) (j := 3) (by decide) (by decide) (by exact hp)]), Hbel.out⟩
              · have hp' : decide ((0 : Int) < (v.length : Int)) = false := decide_eq_false (by omega)
                have Hp := Lib.hid hp
                go_wp2
                go_roundw
                case rel => exact ⟨4, by omega, by go_num, by rw [← Hval.out, part_none (h := 7) (r := ⟨k, n, e, l, v⟩) (j := 3) (by decide) (by exact Hp.out)], Hbel.out⟩
                case measure => simp [intOf]
            · go_wp2
              go_ret
              exact ⟨ret_int (by rw [Hv.out, ← Hval.out]; rfl), Hbel.out⟩
      · have hf : namesFault 7 ⟨k, n, e, l, v⟩ = keyFault l := by rw [names_7, if_neg (by simpa using hn), if_neg (by simpa using hk)]
        have Hv := Lib.hid ((body_names (r := ⟨k, n, e, l, v⟩) (h := 7) (by rw [hf]; exact hl)).trans hf)
        have hl' : (keyFault l != 0) = true := by simpa using hl
        clear hn hk hl hf
        go_enter Tryd.func21, Tryd.ntmps21
        go_wp2_with (first
            | (go_at_call 77; refine (forestName_ok _ A n a).mono ?_; rintro e1 w1 ⟨rfl, rfl⟩; rw [Hn.out])
            | (go_at_call 78; (with_reducible refine (pathCheck_ok _ B e b).mono ?_); rintro e1 w1 ⟨rfl, rfl⟩; rw [Hk.out])
            | (go_at_call 78; (with_reducible refine (pathCheck_ok _ C l c).mono ?_); rintro e1 w1 ⟨rfl, rfl⟩))
        go_ret
        exact ⟨ret_int (by rw [Hv.out]), by repeat' (first | exact Below.refl _ _ | assumption | refine Below.drew ?_ | refine below_drewN ?_ _ | refine Below.alloc ?_ (by first | exact Nat.le_refl _ | omega | (simp; done) | (simp; omega)) _)⟩
    · have hf : namesFault 7 ⟨k, n, e, l, v⟩ = keyFault e := by rw [names_7, if_neg (by simpa using hn)]; exact if_pos hk
      have Hv := Lib.hid ((body_names (r := ⟨k, n, e, l, v⟩) (h := 7) (by rw [hf]; exact hk)).trans hf)
      have hk' : (keyFault e != 0) = true := by simpa using hk
      clear hn hk hf
      go_enter Tryd.func21, Tryd.ntmps21
      go_wp2_with (first
          | (go_at_call 77; refine (forestName_ok _ A n a).mono ?_; rintro e1 w1 ⟨rfl, rfl⟩; rw [Hn.out])
          | (go_at_call 78; (with_reducible refine (pathCheck_ok _ B e b).mono ?_); rintro e1 w1 ⟨rfl, rfl⟩)
          | (go_at_call 78; (with_reducible refine (pathCheck_ok _ C l c).mono ?_); rintro e1 w1 ⟨rfl, rfl⟩))
      go_ret
      exact ⟨ret_int (by rw [Hv.out]), by repeat' (first | exact Below.refl _ _ | assumption | refine Below.drew ?_ | refine below_drewN ?_ _ | refine Below.alloc ?_ (by first | exact Nat.le_refl _ | omega | (simp; done) | (simp; omega)) _)⟩
  · have hf : namesFault 7 ⟨k, n, e, l, v⟩ = nameFault n := by rw [names_7, if_pos (by exact hn)]
    have Hv := Lib.hid ((body_names (r := ⟨k, n, e, l, v⟩) (h := 7) (by rw [hf]; exact hn)).trans hf)
    have hn' : (nameFault n != 0) = true := by simpa using hn
    clear hn hf
    go_enter Tryd.func21, Tryd.ntmps21
    go_wp2_with (first
        | (go_at_call 77; refine (forestName_ok _ A n a).mono ?_; rintro e1 w1 ⟨rfl, rfl⟩)
        | (go_at_call 78; (with_reducible refine (pathCheck_ok _ B e b).mono ?_); rintro e1 w1 ⟨rfl, rfl⟩)
        | (go_at_call 78; (with_reducible refine (pathCheck_ok _ C l c).mono ?_); rintro e1 w1 ⟨rfl, rfl⟩))
    go_ret
    exact ⟨ret_int (by rw [Hv.out]), by repeat' (first | exact Below.refl _ _ | assumption | refine Below.drew ?_ | refine below_drewN ?_ _ | refine Below.alloc ?_ (by first | exact Nat.le_refl _ | omega | (simp; done) | (simp; omega)) _)⟩
set_option maxRecDepth 100000 in
set_option maxHeartbeats 4000000 in
theorem wireCheck_11 (w : World) (hT : HasAt w) (A B C D : Option Addr) (n e l v : List UInt8) (a b c d k : Nat) (hk1 : 1 ≤ k) (hk8 : k ≤ 8) (hh : hasS k = 11) :
    Calls Tryd.prog 21 #[.agg #[.int .i64 k, .slice A n.length a, .slice B e.length b, .slice C l.length c, .slice D v.length d]] w (RetV w (.int .i64 (bodyFault 11 ⟨k, n, e, l, v⟩))) := by
  have hcell : (w.alloc (.cells #[.int .i64 k, .slice A n.length a, .slice B e.length b, .slice C l.length c, .slice D v.length d] 24)).cell? ⟨0, k, none⟩ = some (.int .i64 11) := by
    have h1 := hT k (by omega)
    rw [hh] at h1
    exact (((Below.refl w.heap.size w).alloc (Nat.le_refl _) _).cell (World.block_lt_of_cell? w _ (hT k (by omega)))).trans h1
  have hka : ¬ (k : Int) < 1 := by omega
  have hkb : ¬ (8 : Int) < (k : Int) := by omega
  have hkc : (0 : Int) ≤ (k : Int) := by omega
  have hkd : (k : Int) < 9 := by omega
  have hke : k ≠ 0 := by omega
  have hkf : k < 9 := by omega
  have c11_1 : bits .and .i64 11 1 = 1 := by decide
  have c11_4 : bits .and .i64 11 4 = 0 := by decide
  have c5_1 : bits .and .i64 5 1 = 1 := by decide
  have c2_1 : bits .and .i64 2 1 = 0 := by decide
  have c1_1 : bits .and .i64 1 1 = 1 := by decide
  have x0 : ∀ W : World, (Instr.index 113 (.agg #[.slice A n.length a, .slice B e.length b, .slice C l.length c, .slice D v.length d]) (.int .i64 0)).run Tryd.prog W = .ok (.slice A n.length a) W := fun _ => by kernel_rfl
  have x1 : ∀ W : World, (Instr.index 113 (.agg #[.slice A n.length a, .slice B e.length b, .slice C l.length c, .slice D v.length d]) (.int .i64 1)).run Tryd.prog W = .ok (.slice B e.length b) W := fun _ => by kernel_rfl
  have x2 : ∀ W : World, (Instr.index 113 (.agg #[.slice A n.length a, .slice B e.length b, .slice C l.length c, .slice D v.length d]) (.int .i64 2)).run Tryd.prog W = .ok (.slice C l.length c) W := fun _ => by kernel_rfl
  have x3 : ∀ W : World, (Instr.index 113 (.agg #[.slice A n.length a, .slice B e.length b, .slice C l.length c, .slice D v.length d]) (.int .i64 3)).run Tryd.prog W = .ok (.slice D v.length d) W := fun _ => by kernel_rfl
  clear hT hh
  by_cases hn : nameFault n = 0
  · have Hn := Lib.hid hn
    by_cases hk : keyFault e = 0
    · have Hk := Lib.hid hk
      have Hnm := Lib.hid (show namesFault 11 ⟨k, n, e, l, v⟩ = 0 by rw [names_11, if_neg (by simpa using hn)]; exact hk)
      clear hn hk
      by_cases hv : 32 < v.length
      · have Hv := Lib.hid (body_value (r := ⟨k, n, e, l, v⟩) Hnm.out hv)
        have hv' : decide ((32 : Int) < (v.length : Int)) = true := decide_eq_true (by omega)
        go_enter Tryd.func21, Tryd.ntmps21
        go_wp2_with (first
            | (go_at_call 77; refine (forestName_ok _ A n a).mono ?_; rintro e1 w1 ⟨rfl, rfl⟩; rw [Hn.out])
            | (go_at_call 78; (with_reducible refine (pathCheck_ok _ B e b).mono ?_); rintro e1 w1 ⟨rfl, rfl⟩; rw [Hk.out])
            | (go_at_call 78; (with_reducible refine (pathCheck_ok _ C l c).mono ?_); rintro e1 w1 ⟨rfl, rfl⟩))
        go_ret
        exact ⟨ret_int (by rw [Hv.out]), by repeat' (first | exact Below.refl _ _ | assumption | refine Below.drew ?_ | refine below_drewN ?_ _ | refine Below.alloc ?_ (by first | exact Nat.le_refl _ | omega | (simp; done) | (simp; omega)) _)⟩
      · have Hv := Lib.hid (body_parts (r := ⟨k, n, e, l, v⟩) Hnm.out (by show v.length ≤ 32; omega))
        have hv' : decide ((32 : Int) < (v.length : Int)) = false := decide_eq_false (by omega)
        go_enter Tryd.func21, Tryd.ntmps21
        go_wp2_with (first
            | (go_at_call 77; refine (forestName_ok _ A n a).mono ?_; rintro e1 w1 ⟨rfl, rfl⟩; rw [Hn.out])
            | (go_at_call 78; (with_reducible refine (pathCheck_ok _ B e b).mono ?_); rintro e1 w1 ⟨rfl, rfl⟩; rw [Hk.out])
            | (go_at_call 78; (with_reducible refine (pathCheck_ok _ C l c).mono ?_); rintro e1 w1 ⟨rfl, rfl⟩))
        go_loopw [58] (fun i wr => ∃ j : Nat, j ≤ 4 ∧ i = .int .i64 j ∧ firstBad (partF 11 ⟨k, n, e, l, v⟩) (4 - j) j = partsFault 11 ⟨k, n, e, l, v⟩ ∧ Below w.heap.size w wr) (fun i _ => 4 - (intOf i).toNat)
        case atStart => exact ⟨0, by omega, rfl, rfl, (by repeat' (first | exact Below.refl _ _ | assumption | refine Below.drew ?_ | refine below_drewN ?_ _ | refine Below.alloc ?_ (by first | exact Nat.le_refl _ | omega | (simp; done) | (simp; omega)) _))⟩
        case round =>
          obtain ⟨j, hj, rfl, hval, hbel⟩ := hrel
          have Hval := Lib.hid hval
          have Hbel := Lib.hid hbel
          clear hval hbel
          rcases (by omega : j = 0 ∨ j = 1 ∨ j = 2 ∨ j = 3 ∨ j = 4) with rfl | rfl | rfl | rfl | rfl
          · go_wp2
            go_roundw
            case rel => exact ⟨1, by omega, by go_num, by rw [← Hval.out, part_has (h := 11) (r := ⟨k, n, e, l, v⟩) (j := 0) (by decide) (by decide)], Hbel.out⟩
            case measure => simp [intOf]
          · go_wp2
            go_roundw
            case rel => exact ⟨2, by omega, by go_num, by rw [← Hval.out, part_has (h := 11) (r := ⟨k, n, e, l, v⟩) (j := 1) (by decide) (by decide)], Hbel.out⟩
            case measure => simp [intOf]
          · by_cases hp : 0 < l.length
            · have hp' : decide ((0 : Int) < (l.length : Int)) = true := decide_eq_true (by omega)
              go_wp2
              go_ret
              exact ⟨ret_int (by rw [Hv.out, ← Hval.out, part_bad (h := 11) (r := ⟨k, n, e, l, v⟩) (j := 2) (by decide) (by decide) (by exact hp)]), Hbel.out⟩
            · have hp' : decide ((0 : Int) < (l.length : Int)) = false := decide_eq_false (by omega)
              have Hp := Lib.hid hp
              go_wp2
              go_roundw
              case rel => exact ⟨3, by omega, by go_num, by rw [← Hval.out, part_none (h := 11) (r := ⟨k, n, e, l, v⟩) (j := 2) (by decide) (by exact Hp.out)], Hbel.out⟩
              case measure => simp [intOf]
          · go_wp2
            go_roundw
            case rel => exact ⟨4, by omega, by go_num, by rw [← Hval.out, part_has (h := 11) (r := ⟨k, n, e, l, v⟩) (j := 3) (by decide) (by decide)], Hbel.out⟩
            case measure => simp [intOf]
          · go_wp2
            go_ret
            exact ⟨ret_int (by rw [Hv.out, ← Hval.out]; rfl), Hbel.out⟩
    · have hf : namesFault 11 ⟨k, n, e, l, v⟩ = keyFault e := by rw [names_11, if_neg (by simpa using hn)]
      have Hv := Lib.hid ((body_names (r := ⟨k, n, e, l, v⟩) (h := 11) (by rw [hf]; exact hk)).trans hf)
      have hk' : (keyFault e != 0) = true := by simpa using hk
      clear hn hk hf
      go_enter Tryd.func21, Tryd.ntmps21
      go_wp2_with (first
          | (go_at_call 77; refine (forestName_ok _ A n a).mono ?_; rintro e1 w1 ⟨rfl, rfl⟩; rw [Hn.out])
          | (go_at_call 78; (with_reducible refine (pathCheck_ok _ B e b).mono ?_); rintro e1 w1 ⟨rfl, rfl⟩)
          | (go_at_call 78; (with_reducible refine (pathCheck_ok _ C l c).mono ?_); rintro e1 w1 ⟨rfl, rfl⟩))
      go_ret
      exact ⟨ret_int (by rw [Hv.out]), by repeat' (first | exact Below.refl _ _ | assumption | refine Below.drew ?_ | refine below_drewN ?_ _ | refine Below.alloc ?_ (by first | exact Nat.le_refl _ | omega | (simp; done) | (simp; omega)) _)⟩
  · have hf : namesFault 11 ⟨k, n, e, l, v⟩ = nameFault n := by rw [names_11, if_pos (by exact hn)]
    have Hv := Lib.hid ((body_names (r := ⟨k, n, e, l, v⟩) (h := 11) (by rw [hf]; exact hn)).trans hf)
    have hn' : (nameFault n != 0) = true := by simpa using hn
    clear hn hf
    go_enter Tryd.func21, Tryd.ntmps21
    go_wp2_with (first
        | (go_at_call 77; refine (forestName_ok _ A n a).mono ?_; rintro e1 w1 ⟨rfl, rfl⟩)
        | (go_at_call 78; (with_reducible refine (pathCheck_ok _ B e b).mono ?_); rintro e1 w1 ⟨rfl, rfl⟩)
        | (go_at_call 78; (with_reducible refine (pathCheck_ok _ C l c).mono ?_); rintro e1 w1 ⟨rfl, rfl⟩))
    go_ret
    exact ⟨ret_int (by rw [Hv.out]), by repeat' (first | exact Below.refl _ _ | assumption | refine Below.drew ?_ | refine below_drewN ?_ _ | refine Below.alloc ?_ (by first | exact Nat.le_refl _ | omega | (simp; done) | (simp; omega)) _)⟩
set_option maxRecDepth 100000 in
set_option maxHeartbeats 4000000 in
theorem wireCheck_ok (w : World) (hT : HasAt w) (A B C D : Option Addr) (r : Rq) (a b c d : Nat) :
    Calls Tryd.prog 21 #[.agg #[.int .i64 r.kind, .slice A r.name.length a, .slice B r.key.length b, .slice C r.last.length c, .slice D r.value.length d]] w (RetV w (.int .i64 (rqFault r))) := by
  obtain ⟨i, n, e, l, v⟩ := r
  by_cases hk : 1 ≤ i ∧ i ≤ 8
  · obtain ⟨k, rfl⟩ : ∃ k : Nat, i = k := ⟨i.toNat, by omega⟩
    have hv : rqFault ⟨k, n, e, l, v⟩ = bodyFault (hasS k) ⟨k, n, e, l, v⟩ := by unfold rqFault; rw [if_neg (by simpa using hk)]; rfl
    rw [hv]
    rcases has_cases (k := k) (by omega) (by omega) with h | h | h | h
    · rw [h]; exact wireCheck_0 w hT A B C D n e l v a b c d k (by omega) (by omega) h
    · rw [h]; exact wireCheck_3 w hT A B C D n e l v a b c d k (by omega) (by omega) h
    · rw [h]; exact wireCheck_7 w hT A B C D n e l v a b c d k (by omega) (by omega) h
    · rw [h]; exact wireCheck_11 w hT A B C D n e l v a b c d k (by omega) (by omega) h
  · have hv : rqFault ⟨i, n, e, l, v⟩ = 5 := by unfold rqFault; rw [if_pos hk]
    rw [hv]
    clear hT hv
    rcases (by omega : i < 1 ∨ (1 ≤ i ∧ 8 < i)) with h | ⟨h, h'⟩
    · clear hk
      go_enter Tryd.func21, Tryd.ntmps21
      go_wp2
      go_ret
      exact ⟨rfl, by repeat' (first | exact Below.refl _ _ | assumption | refine Below.drew ?_ | refine below_drewN ?_ _ | refine Below.alloc ?_ (by first | exact Nat.le_refl _ | omega | (simp; done) | (simp; omega)) _)⟩
    · clear hk
      have h1 : ¬ i < 1 := by omega
      go_enter Tryd.func21, Tryd.ntmps21
      go_wp2
      go_ret
      exact ⟨rfl, by repeat' (first | exact Below.refl _ _ | assumption | refine Below.drew ?_ | refine below_drewN ?_ _ | refine Below.alloc ?_ (by first | exact Nat.le_refl _ | omega | (simp; done) | (simp; omega)) _)⟩
end Go.Proofs.YtddppmhpdgecgaaDoor
