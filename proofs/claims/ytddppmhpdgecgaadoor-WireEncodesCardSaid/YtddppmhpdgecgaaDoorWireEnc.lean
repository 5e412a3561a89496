/- Walks: wire.Encode, RequestBytes. -/
import Derived.Test.YtddppmhpdgecgaaDoorWireCheck
import Derived.Test.YtddppmhpdgecgaaDoorWireFault
import Derived.Test.YtddppmhpdgecgaaDoorRqCopy
import Derived.Test.YtddppmhpdgecgaaDoorEnc0
namespace Go.Proofs.YtddppmhpdgecgaaDoor
open Go.RowKit
set_option linter.unusedVariables false
set_option linter.unusedSimpArgs false

/-- The bytes of a request, part by part. -/
def encUp (h : Nat) (r : Rq) : Nat → List UInt8
  | 0 => [UInt8.ofNat r.kind.toNat]
  | j + 1 => encUp h r j ++ (if h / 2 ^ j % 2 = 1 then lpS (partAt r j) else [])
/-- What wire.Encode and RequestBytes answer. -/
def encR (r : Rq) : List UInt8 × Int := if rqFault r ≠ 0 then ([], rqFault r) else (encUp (hasS r.kind.toNat) r 4, 0)
/-- The call returns bytes and a number. -/
def RetBI (w : World) (r : List UInt8 × Int) (e : Ending) (w' : World) : Prop :=
  ∃ A c, e = .returned (.tuple #[.slice A r.1.length c, .int .i64 r.2]) ∧ Bs (From w.heap.size) w' A r.1 ∧ Below w.heap.size w w'
theorem key_small {a : List UInt8} (h : keyFault a = 0) : a.length ≤ 16 := by unfold keyFault at h; split at h <;> omega
theorem name_small {a : List UInt8} (h : nameFault a = 0) : a.length ≤ 8 := by unfold nameFault at h; split at h <;> omega
theorem body_small {h : Nat} {r : Rq} (hf : bodyFault h r = 0) : (h % 2 = 1 → r.name.length ≤ 8 ∧ r.key.length ≤ 16) ∧ (h % 2 = 1 → h / 4 % 2 = 1 → r.last.length ≤ 16) ∧ r.value.length ≤ 32 := by
  unfold bodyFault at hf
  by_cases h1 : namesFault h r = 0
  · rw [if_neg (by simp [h1])] at hf
    by_cases h2 : 32 < r.value.length
    · rw [if_pos h2] at hf; cases hf
    · unfold namesFault at h1
      refine ⟨fun hh => ?_, fun hh hl => ?_, by omega⟩
      · rw [if_neg (by omega)] at h1
        by_cases h3 : nameFault r.name = 0
        · rw [if_neg (by simp [h3])] at h1
          by_cases h4 : keyFault r.key = 0
          · exact ⟨name_small h3, key_small h4⟩
          · rw [if_pos h4] at h1; exact absurd h1 h4
        · rw [if_pos h3] at h1; exact absurd h1 h3
      · rw [if_neg (by omega)] at h1
        by_cases h3 : nameFault r.name = 0
        · rw [if_neg (by simp [h3])] at h1
          by_cases h4 : keyFault r.key = 0
          · rw [if_neg (by simp [h4]), if_neg (by omega)] at h1
            exact key_small h1
          · rw [if_pos h4] at h1; exact absurd h1 h4
        · rw [if_pos h3] at h1; exact absurd h1 h3
  · rw [if_pos h1] at hf; exact absurd hf h1
theorem enc_has {h : Nat} {r : Rq} {j : Nat} (hb : h / 2 ^ j % 2 = 1) : encUp h r (j + 1) = encUp h r j ++ lpS (partAt r j) := by rw [encUp, if_pos hb]
theorem enc_none {h : Nat} {r : Rq} {j : Nat} (hb : h / 2 ^ j % 2 = 0) : encUp h r (j + 1) = encUp h r j := by rw [encUp, if_neg (by omega), List.append_nil]
theorem own_blk {w : World} {base g : Nat} {l : List UInt8} (h : w.heap[g]? = some (.cells (l.map bv).toArray 5 (0, 0))) (hb : base ≤ g) (hm : l.length ≤ maxLen) :
    w.ownsRow base 5 1 (.slice (some ⟨g, 0, none⟩) l.length l.length) l.length (l.map bv) :=
  ⟨by simp, .inr ⟨g, l.length, _, rfl, hb, h, Nat.le_refl _, hm, by simp, by rw [Nat.mul_one]; exact List.take_of_length_le (by simp)⟩⟩

set_option maxRecDepth 100000 in
set_option maxHeartbeats 4000000 in
theorem wireEnc_0 (w : World) (hT : HasAt w) (A B C D : Option Addr) (n e l v : List UInt8) (a b c d k : Nat) (hA : Bs All w A n) (hB : Bs All w B e) (hC : Bs All w C l) (hD : Bs All w D v) (hk1 : 1 ≤ k) (hk8 : k ≤ 8) (hh : hasS k = 0) (hf : bodyFault 0 ⟨k, n, e, l, v⟩ = 0) :
    Calls Tryd.prog 24 #[.agg #[.int .i64 k, .slice A n.length a, .slice B e.length b, .slice C l.length c, .slice D v.length d]] w (RetBI w (encUp 0 ⟨k, n, e, l, v⟩ 4, 0)) := by
  obtain ⟨i0, hi0, hz0, hz1', hz2'⟩ := info_parts info_u8
  obtain ⟨sm1, sm2, sm3⟩ := body_small hf
  have hrq : rqFault ⟨k, n, e, l, v⟩ = 0 := by unfold rqFault; rw [if_neg (by show ¬ ¬ ((1 : Int) ≤ (k : Int) ∧ (k : Int) ≤ 8); omega)]; show bodyFault (hasS k) _ = 0; rw [hh]; exact hf
  have Hrq := Lib.hid hrq
  have hv32 : v.length ≤ 32 := sm3
  have Hg := Lib.hid (hT k (by omega))
  rw [hh] at Hg
  have HT := Lib.hid hT
  have HA := Lib.hid hA
  have HB := Lib.hid hB
  have HC := Lib.hid hC
  have HD := Lib.hid hD
  have hkc : (0 : Int) ≤ (k : Int) := by omega
  have hkd : (k : Int) < 9 := by omega
  have c0 : bits .and .i64 0 1 = 0 := by decide
  have x0 : ∀ W : World, (Instr.index 113 (.agg #[.slice A n.length a, .slice B e.length b, .slice C l.length c, .slice D v.length d]) (.int .i64 0)).run Tryd.prog W = .ok (.slice A n.length a) W := fun _ => by kernel_rfl
  have c1 : bits .and .i64 0 1 = 0 := by decide
  have x1 : ∀ W : World, (Instr.index 113 (.agg #[.slice A n.length a, .slice B e.length b, .slice C l.length c, .slice D v.length d]) (.int .i64 1)).run Tryd.prog W = .ok (.slice B e.length b) W := fun _ => by kernel_rfl
  have c2 : bits .and .i64 0 1 = 0 := by decide
  have x2 : ∀ W : World, (Instr.index 113 (.agg #[.slice A n.length a, .slice B e.length b, .slice C l.length c, .slice D v.length d]) (.int .i64 2)).run Tryd.prog W = .ok (.slice C l.length c) W := fun _ => by kernel_rfl
  have c3 : bits .and .i64 0 1 = 0 := by decide
  have x3 : ∀ W : World, (Instr.index 113 (.agg #[.slice A n.length a, .slice B e.length b, .slice C l.length c, .slice D v.length d]) (.int .i64 3)).run Tryd.prog W = .ok (.slice D v.length d) W := fun _ => by kernel_rfl
  have hwk := wrap_u8 k
  have Hwk := Lib.hid hwk
  have Hb0 := Lib.hid (show Below w.heap.size w (w.alloc (.cells #[.int .i64 k, .slice A n.length a, .slice B e.length b, .slice C l.length c, .slice D v.length d] 24)) from (Below.refl _ _).alloc (Nat.le_refl _) _)
  have Hbx := Lib.hid (box_new w #[.int .i64 k, .slice A n.length a, .slice B e.length b, .slice C l.length c, .slice D v.length d] 24)
  clear hA hB hC hD hT hf hrq hh sm1 sm2 sm3 hwk
  go_enter Tryd.func24, Tryd.ntmps24
  go_wp2_with (go_at_call 21; refine (wireCheck_ok _ (HT.out.below ?_) A B C D ⟨k, n, e, l, v⟩ a b c d).mono ?_; (repeat' (first | exact Below.refl _ _ | assumption | refine Below.drew ?_ | refine below_drewN ?_ _ | refine Below.alloc ?_ (by first | exact Nat.le_refl _ | omega | (simp; done) | (simp; omega)) _)); rintro e1 w1 ⟨rfl, hb1⟩; rw [Hrq.out]; have Hbw1 := Lib.hid (Hb0.out.next hb1 (by simp)); have Hbx1 := Lib.hid ((hb1.block _ (by simp)).trans Hbx.out); have hz1 : w.heap.size < w1.heap.size := (by have := hb1.size; simp at this; omega); obtain ⟨⟨g0, g1, g2, g3, g4⟩, _⟩ := box5 Hbx1.out; clear hb1)
  generalize hW : w1.alloc _ = w2
  have hx2 : w2.heap[w1.heap.size]? = some (.cells (([UInt8.ofNat k] : List UInt8).map bv).toArray 5 (0, 0)) := by
    rw [← hW]
    refine (box_new w1 _ _).trans ?_
    have hk' : (UInt8.ofNat k).toNat = k := by rw [UInt8.toNat_ofNat']; omega
    simp [bv, hk']
  have Hb12 := Lib.hid (show Below w1.heap.size w1 w2 by rw [← hW]; exact (Below.refl _ _).alloc (Nat.le_refl _) _)
  have hz2 : w2.heap.size = w1.heap.size + 1 := by rw [← hW]; simp
  clear hW
  have Hx2 := Lib.hid hx2
  clear hx2 g0 g1 g2 g3 g4
  go_loopw [5, 26] (fun v' i wr => ∃ (j : Nat) (x : Value), j ≤ 4 ∧ i = .int .i64 j ∧ v' = x ∧ wr.ownsRow w1.heap.size 5 1 x (encUp 0 ⟨k, n, e, l, v⟩ j).length ((encUp 0 ⟨k, n, e, l, v⟩ j).map bv) ∧ Below w1.heap.size w2 wr) (fun _ i _ => 4 - (intOf i).toNat)
  case atStart => exact ⟨0, _, by omega, rfl, rfl, own_blk (l := [UInt8.ofNat k]) Hx2.out (Nat.le_refl _) (by simp [maxLen]), Below.refl _ _⟩
  case round =>
    obtain ⟨j, x, hj, rfl, rfl, hown, hbel⟩ := hrel
    have Hown := Lib.hid hown
    have hbz := hbel.size
    have Hb2 := Lib.hid (Hb12.out.trans hbel)
    have Hbel := Lib.hid hbel
    have Hbw := Lib.hid (Hbw1.out.next Hb2.out (by omega))
    obtain ⟨⟨g0, g1, g2, g3, g4⟩, _⟩ := box5 ((Hb2.out.block w.heap.size (by omega)).trans Hbx1.out)
    have hcell := (Hbw.out.cell (p := ⟨0, k, none⟩) (World.block_lt_of_cell? w _ Hg.out)).trans Hg.out
    have hap : u5.ownBlock ≠ some wr.heap.size := fun hv => by have := (hown.lt _ hv).2; omega
    clear hbel hown
    rcases (by omega : j = 0 ∨ j = 1 ∨ j = 2 ∨ j = 3 ∨ j = 4) with rfl | rfl | rfl | rfl | rfl
    · go_wp2
      go_roundw
      case rel => exact ⟨1, _, by omega, by go_num, rfl, by rw [enc_none (h := 0) (r := ⟨k, n, e, l, v⟩) (j := 0) (by decide)]; exact Hown.out, Hbel.out⟩
      case measure => simp [intOf]
    · go_wp2
      go_roundw
      case rel => exact ⟨2, _, by omega, by go_num, rfl, by rw [enc_none (h := 0) (r := ⟨k, n, e, l, v⟩) (j := 1) (by decide)]; exact Hown.out, Hbel.out⟩
      case measure => simp [intOf]
    · go_wp2
      go_roundw
      case rel => exact ⟨3, _, by omega, by go_num, rfl, by rw [enc_none (h := 0) (r := ⟨k, n, e, l, v⟩) (j := 2) (by decide)]; exact Hown.out, Hbel.out⟩
      case measure => simp [intOf]
    · go_wp2
      go_roundw
      case rel => exact ⟨4, _, by omega, by go_num, rfl, by rw [enc_none (h := 0) (r := ⟨k, n, e, l, v⟩) (j := 3) (by decide)]; exact Hown.out, Hbel.out⟩
      case measure => simp [intOf]
    · have hEl : (encUp 0 ⟨k, n, e, l, v⟩ 4).length ≤ 200 := by simp [encUp, lpS, partAt]; try omega
      generalize encUp 0 ⟨k, n, e, l, v⟩ 4 = E at *
      go_wp2
      go_ret2
      obtain ⟨A9, c9, rfl, hs9⟩ : ∃ A c, u5 = .slice A E.length c ∧ Bs (From w1.heap.size) wr A E := by
        obtain ⟨A9, c9, hr, hbs, _⟩ := ret_bs (w := w1) Hown.out Hb2.out
        exact ⟨A9, c9, by cases hr; rfl, hbs⟩
      exact ⟨A9, c9, rfl, hs9.blo (by omega), Hbw.out⟩
set_option maxRecDepth 100000 in
set_option maxHeartbeats 4000000 in
theorem wireEnc_3 (w : World) (hT : HasAt w) (A B C D : Option Addr) (n e l v : List UInt8) (a b c d k : Nat) (hA : Bs All w A n) (hB : Bs All w B e) (hC : Bs All w C l) (hD : Bs All w D v) (hk1 : 1 ≤ k) (hk8 : k ≤ 8) (hh : hasS k = 3) (hf : bodyFault 3 ⟨k, n, e, l, v⟩ = 0) :
    Calls Tryd.prog 24 #[.agg #[.int .i64 k, .slice A n.length a, .slice B e.length b, .slice C l.length c, .slice D v.length d]] w (RetBI w (encUp 3 ⟨k, n, e, l, v⟩ 4, 0)) := by
  obtain ⟨i0, hi0, hz0, hz1', hz2'⟩ := info_parts info_u8
  obtain ⟨sm1, sm2, sm3⟩ := body_small hf
  have hrq : rqFault ⟨k, n, e, l, v⟩ = 0 := by unfold rqFault; rw [if_neg (by show ¬ ¬ ((1 : Int) ≤ (k : Int) ∧ (k : Int) ≤ 8); omega)]; show bodyFault (hasS k) _ = 0; rw [hh]; exact hf
  have Hrq := Lib.hid hrq
  obtain ⟨hn8, he16⟩ : n.length ≤ 8 ∧ e.length ≤ 16 := sm1 (by decide)
  have hv32 : v.length ≤ 32 := sm3
  have Hg := Lib.hid (hT k (by omega))
  rw [hh] at Hg
  have HT := Lib.hid hT
  have HA := Lib.hid hA
  have HB := Lib.hid hB
  have HC := Lib.hid hC
  have HD := Lib.hid hD
  have hkc : (0 : Int) ≤ (k : Int) := by omega
  have hkd : (k : Int) < 9 := by omega
  have c0 : bits .and .i64 3 1 = 1 := by decide
  have x0 : ∀ W : World, (Instr.index 113 (.agg #[.slice A n.length a, .slice B e.length b, .slice C l.length c, .slice D v.length d]) (.int .i64 0)).run Tryd.prog W = .ok (.slice A n.length a) W := fun _ => by kernel_rfl
  have c1 : bits .and .i64 1 1 = 1 := by decide
  have x1 : ∀ W : World, (Instr.index 113 (.agg #[.slice A n.length a, .slice B e.length b, .slice C l.length c, .slice D v.length d]) (.int .i64 1)).run Tryd.prog W = .ok (.slice B e.length b) W := fun _ => by kernel_rfl
  have c2 : bits .and .i64 0 1 = 0 := by decide
  have x2 : ∀ W : World, (Instr.index 113 (.agg #[.slice A n.length a, .slice B e.length b, .slice C l.length c, .slice D v.length d]) (.int .i64 2)).run Tryd.prog W = .ok (.slice C l.length c) W := fun _ => by kernel_rfl
  have c3 : bits .and .i64 0 1 = 0 := by decide
  have x3 : ∀ W : World, (Instr.index 113 (.agg #[.slice A n.length a, .slice B e.length b, .slice C l.length c, .slice D v.length d]) (.int .i64 3)).run Tryd.prog W = .ok (.slice D v.length d) W := fun _ => by kernel_rfl
  have hwk := wrap_u8 k
  have Hwk := Lib.hid hwk
  have Hb0 := Lib.hid (show Below w.heap.size w (w.alloc (.cells #[.int .i64 k, .slice A n.length a, .slice B e.length b, .slice C l.length c, .slice D v.length d] 24)) from (Below.refl _ _).alloc (Nat.le_refl _) _)
  have Hbx := Lib.hid (box_new w #[.int .i64 k, .slice A n.length a, .slice B e.length b, .slice C l.length c, .slice D v.length d] 24)
  clear hA hB hC hD hT hf hrq hh sm1 sm2 sm3 hwk
  go_enter Tryd.func24, Tryd.ntmps24
  go_wp2_with (go_at_call 21; refine (wireCheck_ok _ (HT.out.below ?_) A B C D ⟨k, n, e, l, v⟩ a b c d).mono ?_; (repeat' (first | exact Below.refl _ _ | assumption | refine Below.drew ?_ | refine below_drewN ?_ _ | refine Below.alloc ?_ (by first | exact Nat.le_refl _ | omega | (simp; done) | (simp; omega)) _)); rintro e1 w1 ⟨rfl, hb1⟩; rw [Hrq.out]; have Hbw1 := Lib.hid (Hb0.out.next hb1 (by simp)); have Hbx1 := Lib.hid ((hb1.block _ (by simp)).trans Hbx.out); have hz1 : w.heap.size < w1.heap.size := (by have := hb1.size; simp at this; omega); obtain ⟨⟨g0, g1, g2, g3, g4⟩, _⟩ := box5 Hbx1.out; clear hb1)
  generalize hW : w1.alloc _ = w2
  have hx2 : w2.heap[w1.heap.size]? = some (.cells (([UInt8.ofNat k] : List UInt8).map bv).toArray 5 (0, 0)) := by
    rw [← hW]
    refine (box_new w1 _ _).trans ?_
    have hk' : (UInt8.ofNat k).toNat = k := by rw [UInt8.toNat_ofNat']; omega
    simp [bv, hk']
  have Hb12 := Lib.hid (show Below w1.heap.size w1 w2 by rw [← hW]; exact (Below.refl _ _).alloc (Nat.le_refl _) _)
  have hz2 : w2.heap.size = w1.heap.size + 1 := by rw [← hW]; simp
  clear hW
  have Hx2 := Lib.hid hx2
  clear hx2 g0 g1 g2 g3 g4
  go_loopw [5, 26] (fun v' i wr => ∃ (j : Nat) (x : Value), j ≤ 4 ∧ i = .int .i64 j ∧ v' = x ∧ wr.ownsRow w1.heap.size 5 1 x (encUp 3 ⟨k, n, e, l, v⟩ j).length ((encUp 3 ⟨k, n, e, l, v⟩ j).map bv) ∧ Below w1.heap.size w2 wr) (fun _ i _ => 4 - (intOf i).toNat)
  case atStart => exact ⟨0, _, by omega, rfl, rfl, own_blk (l := [UInt8.ofNat k]) Hx2.out (Nat.le_refl _) (by simp [maxLen]), Below.refl _ _⟩
  case round =>
    obtain ⟨j, x, hj, rfl, rfl, hown, hbel⟩ := hrel
    have Hown := Lib.hid hown
    have hbz := hbel.size
    have Hb2 := Lib.hid (Hb12.out.trans hbel)
    have Hbel := Lib.hid hbel
    have Hbw := Lib.hid (Hbw1.out.next Hb2.out (by omega))
    obtain ⟨⟨g0, g1, g2, g3, g4⟩, _⟩ := box5 ((Hb2.out.block w.heap.size (by omega)).trans Hbx1.out)
    have hcell := (Hbw.out.cell (p := ⟨0, k, none⟩) (World.block_lt_of_cell? w _ Hg.out)).trans Hg.out
    have hap : u5.ownBlock ≠ some wr.heap.size := fun hv => by have := (hown.lt _ hv).2; omega
    clear hbel hown
    rcases (by omega : j = 0 ∨ j = 1 ∨ j = 2 ∨ j = 3 ∨ j = 4) with rfl | rfl | rfl | rfl | rfl
    · have hEl : (encUp 3 ⟨k, n, e, l, v⟩ 0).length ≤ 100 := by simp [encUp, lpS, partAt]
      have Hnx := Lib.hid (enc_has (h := 3) (r := ⟨k, n, e, l, v⟩) (j := 0) (by decide))
      have hpl0 : n.length ≤ 32 := by omega
      have Hbv := Lib.hid (show bv (UInt8.ofNat n.length) = .int .u8 (n.length : Int) by unfold bv; rw [UInt8.toNat_ofNat', Nat.mod_eq_of_lt (by omega)])
      have Hp := Lib.hid (show Bs (Lo w1.heap.size) wr A n from ((HA.out.bbelow Hbw1.out).low byteR_stays (Nat.le_refl _)).bsame (Same.of_low Hb2.out))
      have hpl : n.length ≤ 32 := by omega
      generalize encUp 3 ⟨k, n, e, l, v⟩ 0 = E at *
      go_wp2_with (first
        | (at_builtin; refine wpl_app _ rfl _ _ _ rfl w1.heap.size 5 i0 (.int .u8 0) 1 1 Tryd.underlying22 hi0 hz0 hz1' hz2' rfl (by decide) u5 E.length (E.map bv) rfl (Hown.out.alloc _) (some ⟨wr.heap.size, 0, none⟩) 1 1 [bv (UInt8.ofNat n.length)] rfl rfl (by rw [Hbv.out]; exact one_src _ _ _) (by simp [bv, Value.oneCell']) (by unfold maxLen; omega) (by omega) (by simp; omega) ?_; intro v1 w3 hown1 hg1 hat1; have hz3 := hg1.size; simp at hz3; have hbA := own_below (Hown.out.alloc _) hg1 (by simp; omega))
        | (at_builtin; refine wpl_app _ rfl _ _ _ rfl w1.heap.size 5 i0 (.int .u8 0) 1 1 Tryd.underlying22 hi0 hz0 hz1' hz2' rfl (by decide) v1 (E.length + 1) _ rfl hown1 A n.length a (n.map bv) rfl (by simp) (SL.bsrc (S := Lo w1.heap.size) ((Hp.out.bsame (Same.of_low ((Below.refl _ _).alloc (by omega) _))).bsame (Same.of_low hbA))) (bv_one n) (by unfold maxLen; omega) (by omega) (by omega) ?_; intro v2 w4 hown2 hg2 hat2; have hbB := own_below hown1 hg2 (by omega)))
      go_roundw
      case rel =>
        refine ⟨1, v2, by omega, by go_num, rfl, ?_, ((Hbel.out.alloc (by omega) _).trans hbA).trans hbB⟩
        rw [Hnx.out]
        have e : E.length + 1 + n.length = (E ++ lpS (partAt ⟨k, n, e, l, v⟩ 0)).length := by simp [lpS, partAt]; omega
        rw [← e]
        simpa [lpS, partAt, List.map_append] using hown2
      case measure => simp [intOf]
    · have hEl : (encUp 3 ⟨k, n, e, l, v⟩ 1).length ≤ 100 := by simp [encUp, lpS, partAt]; omega
      have Hnx := Lib.hid (enc_has (h := 3) (r := ⟨k, n, e, l, v⟩) (j := 1) (by decide))
      have hpl0 : e.length ≤ 32 := by omega
      have Hbv := Lib.hid (show bv (UInt8.ofNat e.length) = .int .u8 (e.length : Int) by unfold bv; rw [UInt8.toNat_ofNat', Nat.mod_eq_of_lt (by omega)])
      have Hp := Lib.hid (show Bs (Lo w1.heap.size) wr B e from ((HB.out.bbelow Hbw1.out).low byteR_stays (Nat.le_refl _)).bsame (Same.of_low Hb2.out))
      have hpl : e.length ≤ 32 := by omega
      generalize encUp 3 ⟨k, n, e, l, v⟩ 1 = E at *
      go_wp2_with (first
        | (at_builtin; refine wpl_app _ rfl _ _ _ rfl w1.heap.size 5 i0 (.int .u8 0) 1 1 Tryd.underlying22 hi0 hz0 hz1' hz2' rfl (by decide) u5 E.length (E.map bv) rfl (Hown.out.alloc _) (some ⟨wr.heap.size, 0, none⟩) 1 1 [bv (UInt8.ofNat e.length)] rfl rfl (by rw [Hbv.out]; exact one_src _ _ _) (by simp [bv, Value.oneCell']) (by unfold maxLen; omega) (by omega) (by simp; omega) ?_; intro v1 w3 hown1 hg1 hat1; have hz3 := hg1.size; simp at hz3; have hbA := own_below (Hown.out.alloc _) hg1 (by simp; omega))
        | (at_builtin; refine wpl_app _ rfl _ _ _ rfl w1.heap.size 5 i0 (.int .u8 0) 1 1 Tryd.underlying22 hi0 hz0 hz1' hz2' rfl (by decide) v1 (E.length + 1) _ rfl hown1 B e.length b (e.map bv) rfl (by simp) (SL.bsrc (S := Lo w1.heap.size) ((Hp.out.bsame (Same.of_low ((Below.refl _ _).alloc (by omega) _))).bsame (Same.of_low hbA))) (bv_one e) (by unfold maxLen; omega) (by omega) (by omega) ?_; intro v2 w4 hown2 hg2 hat2; have hbB := own_below hown1 hg2 (by omega)))
      go_roundw
      case rel =>
        refine ⟨2, v2, by omega, by go_num, rfl, ?_, ((Hbel.out.alloc (by omega) _).trans hbA).trans hbB⟩
        rw [Hnx.out]
        have e : E.length + 1 + e.length = (E ++ lpS (partAt ⟨k, n, e, l, v⟩ 1)).length := by simp [lpS, partAt]; omega
        rw [← e]
        simpa [lpS, partAt, List.map_append] using hown2
      case measure => simp [intOf]
    · go_wp2
      go_roundw
      case rel => exact ⟨3, _, by omega, by go_num, rfl, by rw [enc_none (h := 3) (r := ⟨k, n, e, l, v⟩) (j := 2) (by decide)]; exact Hown.out, Hbel.out⟩
      case measure => simp [intOf]
    · go_wp2
      go_roundw
      case rel => exact ⟨4, _, by omega, by go_num, rfl, by rw [enc_none (h := 3) (r := ⟨k, n, e, l, v⟩) (j := 3) (by decide)]; exact Hown.out, Hbel.out⟩
      case measure => simp [intOf]
    · have hEl : (encUp 3 ⟨k, n, e, l, v⟩ 4).length ≤ 200 := by simp [encUp, lpS, partAt]; try omega
      generalize encUp 3 ⟨k, n, e, l, v⟩ 4 = E at *
      go_wp2
      go_ret2
      obtain ⟨A9, c9, rfl, hs9⟩ : ∃ A c, u5 = .slice A E.length c ∧ Bs (From w1.heap.size) wr A E := by
        obtain ⟨A9, c9, hr, hbs, _⟩ := ret_bs (w := w1) Hown.out Hb2.out
        exact ⟨A9, c9, by cases hr; rfl, hbs⟩
      exact ⟨A9, c9, rfl, hs9.blo (by omega), Hbw.out⟩
set_option maxRecDepth 100000 in
set_option maxHeartbeats 4000000 in
theorem wireEnc_7 (w : World) (hT : HasAt w) (A B C D : Option Addr) (n e l v : List UInt8) (a b c d k : Nat) (hA : Bs All w A n) (hB : Bs All w B e) (hC : Bs All w C l) (hD : Bs All w D v) (hk1 : 1 ≤ k) (hk8 : k ≤ 8) (hh : hasS k = 7) (hf : bodyFault 7 ⟨k, n, e, l, v⟩ = 0) :
    Calls Tryd.prog 24 #[.agg #[.int .i64 k, .slice A n.length a, .slice B e.length b, .slice C l.length c, .slice D v.length d]] w (RetBI w (encUp 7 ⟨k, n, e, l, v⟩ 4, 0)) := by
  obtain ⟨i0, hi0, hz0, hz1', hz2'⟩ := info_parts info_u8
  obtain ⟨sm1, sm2, sm3⟩ := body_small hf
  have hrq : rqFault ⟨k, n, e, l, v⟩ = 0 := by unfold rqFault; rw [if_neg (by show ¬ ¬ ((1 : Int) ≤ (k : Int) ∧ (k : Int) ≤ 8); omega)]; show bodyFault (hasS k) _ = 0; rw [hh]; exact hf
  have Hrq := Lib.hid hrq
  obtain ⟨hn8, he16⟩ : n.length ≤ 8 ∧ e.length ≤ 16 := sm1 (by decide)
  have hl16 : l.length ≤ 16 := sm2 (by decide) (by decide)
  have hv32 : v.length ≤ 32 := sm3
  have Hg := Lib.hid (hT k (by omega))
  rw [hh] at Hg
  have HT := Lib.hid hT
  have HA := Lib.hid hA
  have HB := Lib.hid hB
  have HC := Lib.hid hC
  have HD := Lib.hid hD
  have hkc : (0 : Int) ≤ (k : Int) := by omega
  have hkd : (k : Int) < 9 := by omega
  have c0 : bits .and .i64 7 1 = 1 := by decide
  have x0 : ∀ W : World, (Instr.index 113 (.agg #[.slice A n.length a, .slice B e.length b, .slice C l.length c, .slice D v.length d]) (.int .i64 0)).run Tryd.prog W = .ok (.slice A n.length a) W := fun _ => by kernel_rfl
  have c1 : bits .and .i64 3 1 = 1 := by decide
  have x1 : ∀ W : World, (Instr.index 113 (.agg #[.slice A n.length a, .slice B e.length b, .slice C l.length c, .slice D v.length d]) (.int .i64 1)).run Tryd.prog W = .ok (.slice B e.length b) W := fun _ => by kernel_rfl
  have c2 : bits .and .i64 1 1 = 1 := by decide
  have x2 : ∀ W : World, (Instr.index 113 (.agg #[.slice A n.length a, .slice B e.length b, .slice C l.length c, .slice D v.length d]) (.int .i64 2)).run Tryd.prog W = .ok (.slice C l.length c) W := fun _ => by kernel_rfl
  have c3 : bits .and .i64 0 1 = 0 := by decide
  have x3 : ∀ W : World, (Instr.index 113 (.agg #[.slice A n.length a, .slice B e.length b, .slice C l.length c, .slice D v.length d]) (.int .i64 3)).run Tryd.prog W = .ok (.slice D v.length d) W := fun _ => by kernel_rfl
  have hwk := wrap_u8 k
  have Hwk := Lib.hid hwk
  have Hb0 := Lib.hid (show Below w.heap.size w (w.alloc (.cells #[.int .i64 k, .slice A n.length a, .slice B e.length b, .slice C l.length c, .slice D v.length d] 24)) from (Below.refl _ _).alloc (Nat.le_refl _) _)
  have Hbx := Lib.hid (box_new w #[.int .i64 k, .slice A n.length a, .slice B e.length b, .slice C l.length c, .slice D v.length d] 24)
  clear hA hB hC hD hT hf hrq hh sm1 sm2 sm3 hwk
  go_enter Tryd.func24, Tryd.ntmps24
  go_wp2_with (go_at_call 21; refine (wireCheck_ok _ (HT.out.below ?_) A B C D ⟨k, n, e, l, v⟩ a b c d).mono ?_; (repeat' (first | exact Below.refl _ _ | assumption | refine Below.drew ?_ | refine below_drewN ?_ _ | refine Below.alloc ?_ (by first | exact Nat.le_refl _ | omega | (simp; done) | (simp; omega)) _)); rintro e1 w1 ⟨rfl, hb1⟩; rw [Hrq.out]; have Hbw1 := Lib.hid (Hb0.out.next hb1 (by simp)); have Hbx1 := Lib.hid ((hb1.block _ (by simp)).trans Hbx.out); have hz1 : w.heap.size < w1.heap.size := (by have := hb1.size; simp at this; omega); obtain ⟨⟨g0, g1, g2, g3, g4⟩, _⟩ := box5 Hbx1.out; clear hb1)
  generalize hW : w1.alloc _ = w2
  have hx2 : w2.heap[w1.heap.size]? = some (.cells (([UInt8.ofNat k] : List UInt8).map bv).toArray 5 (0, 0)) := by
    rw [← hW]
    refine (box_new w1 _ _).trans ?_
    have hk' : (UInt8.ofNat k).toNat = k := by rw [UInt8.toNat_ofNat']; omega
    simp [bv, hk']
  have Hb12 := Lib.hid (show Below w1.heap.size w1 w2 by rw [← hW]; exact (Below.refl _ _).alloc (Nat.le_refl _) _)
  have hz2 : w2.heap.size = w1.heap.size + 1 := by rw [← hW]; simp
  clear hW
  have Hx2 := Lib.hid hx2
  clear hx2 g0 g1 g2 g3 g4
  go_loopw [5, 26] (fun v' i wr => ∃ (j : Nat) (x : Value), j ≤ 4 ∧ i = .int .i64 j ∧ v' = x ∧ wr.ownsRow w1.heap.size 5 1 x (encUp 7 ⟨k, n, e, l, v⟩ j).length ((encUp 7 ⟨k, n, e, l, v⟩ j).map bv) ∧ Below w1.heap.size w2 wr) (fun _ i _ => 4 - (intOf i).toNat)
  case atStart => exact ⟨0, _, by omega, rfl, rfl, own_blk (l := [UInt8.ofNat k]) Hx2.out (Nat.le_refl _) (by simp [maxLen]), Below.refl _ _⟩
  case round =>
    obtain ⟨j, x, hj, rfl, rfl, hown, hbel⟩ := hrel
    have Hown := Lib.hid hown
    have hbz := hbel.size
    have Hb2 := Lib.hid (Hb12.out.trans hbel)
    have Hbel := Lib.hid hbel
    have Hbw := Lib.hid (Hbw1.out.next Hb2.out (by omega))
    obtain ⟨⟨g0, g1, g2, g3, g4⟩, _⟩ := box5 ((Hb2.out.block w.heap.size (by omega)).trans Hbx1.out)
    have hcell := (Hbw.out.cell (p := ⟨0, k, none⟩) (World.block_lt_of_cell? w _ Hg.out)).trans Hg.out
    have hap : u5.ownBlock ≠ some wr.heap.size := fun hv => by have := (hown.lt _ hv).2; omega
    clear hbel hown
    rcases (by omega : j = 0 ∨ j = 1 ∨ j = 2 ∨ j = 3 ∨ j = 4) with rfl | rfl | rfl | rfl | rfl
    · have hEl : (encUp 7 ⟨k, n, e, l, v⟩ 0).length ≤ 100 := by simp [encUp, lpS, partAt]
      have Hnx := Lib.hid (enc_has (h := 7) (r := ⟨k, n, e, l, v⟩) (j := 0) (by decide))
      have hpl0 : n.length ≤ 32 := by omega
      have Hbv := Lib.hid (show bv (UInt8.ofNat n.length) = .int .u8 (n.length : Int) by unfold bv; rw [UInt8.toNat_ofNat', Nat.mod_eq_of_lt (by omega)])
      have Hp := Lib.hid (show Bs (Lo w1.heap.size) wr A n from ((HA.out.bbelow Hbw1.out).low byteR_stays (Nat.le_refl _)).bsame (Same.of_low Hb2.out))
      have hpl : n.length ≤ 32 := by omega
      generalize encUp 7 ⟨k, n, e, l, v⟩ 0 = E at *
      go_wp2_with (first
        | (at_builtin; refine wpl_app _ rfl _ _ _ rfl w1.heap.size 5 i0 (.int .u8 0) 1 1 Tryd.underlying22 hi0 hz0 hz1' hz2' rfl (by decide) u5 E.length (E.map bv) rfl (Hown.out.alloc _) (some ⟨wr.heap.size, 0, none⟩) 1 1 [bv (UInt8.ofNat n.length)] rfl rfl (by rw [Hbv.out]; exact one_src _ _ _) (by simp [bv, Value.oneCell']) (by unfold maxLen; omega) (by omega) (by simp; omega) ?_; intro v1 w3 hown1 hg1 hat1; have hz3 := hg1.size; simp at hz3; have hbA := own_below (Hown.out.alloc _) hg1 (by simp; omega))
        | (at_builtin; refine wpl_app _ rfl _ _ _ rfl w1.heap.size 5 i0 (.int .u8 0) 1 1 Tryd.underlying22 hi0 hz0 hz1' hz2' rfl (by decide) v1 (E.length + 1) _ rfl hown1 A n.length a (n.map bv) rfl (by simp) (SL.bsrc (S := Lo w1.heap.size) ((Hp.out.bsame (Same.of_low ((Below.refl _ _).alloc (by omega) _))).bsame (Same.of_low hbA))) (bv_one n) (by unfold maxLen; omega) (by omega) (by omega) ?_; intro v2 w4 hown2 hg2 hat2; have hbB := own_below hown1 hg2 (by omega)))
      go_roundw
      case rel =>
        refine ⟨1, v2, by omega, by go_num, rfl, ?_, ((Hbel.out.alloc (by omega) _).trans hbA).trans hbB⟩
        rw [Hnx.out]
        have e : E.length + 1 + n.length = (E ++ lpS (partAt ⟨k, n, e, l, v⟩ 0)).length := by simp [lpS, partAt]; omega
        rw [← e]
        simpa [lpS, partAt, List.map_append] using hown2
      case measure => simp [intOf]
    · have hEl : (encUp 7 ⟨k, n, e, l, v⟩ 1).length ≤ 100 := by simp [encUp, lpS, partAt]; omega
      have Hnx := Lib.hid (enc_has (h := 7) (r := ⟨k, n, e, l, v⟩) (j := 1) (by decide))
      have hpl0 : e.length ≤ 32 := by omega
      have Hbv := Lib.hid (show bv (UInt8.ofNat e.length) = .int .u8 (e.length : Int) by unfold bv; rw [UInt8.toNat_ofNat', Nat.mod_eq_of_lt (by omega)])
      have Hp := Lib.hid (show Bs (Lo w1.heap.size) wr B e from ((HB.out.bbelow Hbw1.out).low byteR_stays (Nat.le_refl _)).bsame (Same.of_low Hb2.out))
      have hpl : e.length ≤ 32 := by omega
      generalize encUp 7 ⟨k, n, e, l, v⟩ 1 = E at *
      go_wp2_with (first
        | (at_builtin; refine wpl_app _ rfl _ _ _ rfl w1.heap.size 5 i0 (.int .u8 0) 1 1 Tryd.underlying22 hi0 hz0 hz1' hz2' rfl (by decide) u5 E.length (E.map bv) rfl (Hown.out.alloc _) (some ⟨wr.heap.size, 0, none⟩) 1 1 [bv (UInt8.ofNat e.length)] rfl rfl (by rw [Hbv.out]; exact one_src _ _ _) (by simp [bv, Value.oneCell']) (by unfold maxLen; omega) (by omega) (by simp; omega) ?_; intro v1 w3 hown1 hg1 hat1; have hz3 := hg1.size; simp at hz3; have hbA := own_below (Hown.out.alloc _) hg1 (by simp; omega))
        | (at_builtin; refine wpl_app _ rfl _ _ _ rfl w1.heap.size 5 i0 (.int .u8 0) 1 1 Tryd.underlying22 hi0 hz0 hz1' hz2' rfl (by decide) v1 (E.length + 1) _ rfl hown1 B e.length b (e.map bv) rfl (by simp) (SL.bsrc (S := Lo w1.heap.size) ((Hp.out.bsame (Same.of_low ((Below.refl _ _).alloc (by omega) _))).bsame (Same.of_low hbA))) (bv_one e) (by unfold maxLen; omega) (by omega) (by omega) ?_; intro v2 w4 hown2 hg2 hat2; have hbB := own_below hown1 hg2 (by omega)))
      go_roundw
      case rel =>
        refine ⟨2, v2, by omega, by go_num, rfl, ?_, ((Hbel.out.alloc (by omega) _).trans hbA).trans hbB⟩
        rw [Hnx.out]
        have e : E.length + 1 + e.length = (E ++ lpS (partAt ⟨k, n, e, l, v⟩ 1)).length := by simp [lpS, partAt]; omega
        rw [← e]
        simpa [lpS, partAt, List.map_append] using hown2
      case measure => simp [intOf]
    · have hEl : (encUp 7 ⟨k, n, e, l, v⟩ 2).length ≤ 100 := by simp [encUp, lpS, partAt]; omega
      have Hnx := Lib.hid (enc_has (h := 7) (r := ⟨k, n, e, l, v⟩) (j := 2) (by decide))
      have hpl0 : l.length ≤ 32 := by omega
      have Hbv := Lib.hid (show bv (UInt8.ofNat l.length) = .int .u8 (l.length : Int) by unfold bv; rw [UInt8.toNat_ofNat', Nat.mod_eq_of_lt (by omega)])
      have Hp := Lib.hid (show Bs (Lo w1.heap.size) wr C l from ((HC.out.bbelow Hbw1.out).low byteR_stays (Nat.le_refl _)).bsame (Same.of_low Hb2.out))
      have hpl : l.length ≤ 32 := by omega
      generalize encUp 7 ⟨k, n, e, l, v⟩ 2 = E at *
      go_wp2_with (first
        | (at_builtin; refine wpl_app _ rfl _ _ _ rfl w1.heap.size 5 i0 (.int .u8 0) 1 1 Tryd.underlying22 hi0 hz0 hz1' hz2' rfl (by decide) u5 E.length (E.map bv) rfl (Hown.out.alloc _) (some ⟨wr.heap.size, 0, none⟩) 1 1 [bv (UInt8.ofNat l.length)] rfl rfl (by rw [Hbv.out]; exact one_src _ _ _) (by simp [bv, Value.oneCell']) (by unfold maxLen; omega) (by omega) (by simp; omega) ?_; intro v1 w3 hown1 hg1 hat1; have hz3 := hg1.size; simp at hz3; have hbA := own_below (Hown.out.alloc _) hg1 (by simp; omega))
        | (at_builtin; refine wpl_app _ rfl _ _ _ rfl w1.heap.size 5 i0 (.int .u8 0) 1 1 Tryd.underlying22 hi0 hz0 hz1' hz2' rfl (by decide) v1 (E.length + 1) _ rfl hown1 C l.length c (l.map bv) rfl (by simp) (SL.bsrc (S := Lo w1.heap.size) ((Hp.out.bsame (Same.of_low ((Below.refl _ _).alloc (by omega) _))).bsame (Same.of_low hbA))) (bv_one l) (by unfold maxLen; omega) (by omega) (by omega) ?_; intro v2 w4 hown2 hg2 hat2; have hbB := own_below hown1 hg2 (by omega)))
      go_roundw
      case rel =>
        refine ⟨3, v2, by omega, by go_num, rfl, ?_, ((Hbel.out.alloc (by omega) _).trans hbA).trans hbB⟩
        rw [Hnx.out]
        have e : E.length + 1 + l.length = (E ++ lpS (partAt ⟨k, n, e, l, v⟩ 2)).length := by simp [lpS, partAt]; omega
        rw [← e]
        simpa [lpS, partAt, List.map_append] using hown2
      case measure => simp [intOf]
    · go_wp2
      go_roundw
      case rel => exact ⟨4, _, by omega, by go_num, rfl, by rw [enc_none (h := 7) (r := ⟨k, n, e, l, v⟩) (j := 3) (by decide)]; exact Hown.out, Hbel.out⟩
      case measure => simp [intOf]
    · have hEl : (encUp 7 ⟨k, n, e, l, v⟩ 4).length ≤ 200 := by simp [encUp, lpS, partAt]; try omega
      generalize encUp 7 ⟨k, n, e, l, v⟩ 4 = E at *
      go_wp2
      go_ret2
      obtain ⟨A9, c9, rfl, hs9⟩ : ∃ A c, u5 = .slice A E.length c ∧ Bs (From w1.heap.size) wr A E := by
        obtain ⟨A9, c9, hr, hbs, _⟩ := ret_bs (w := w1) Hown.out Hb2.out
        exact ⟨A9, c9, by cases hr; rfl, hbs⟩
      exact ⟨A9, c9, rfl, hs9.blo (by omega), Hbw.out⟩
set_option maxRecDepth 100000 in
set_option maxHeartbeats 4000000 in
theorem wireEnc_11 (w : World) (hT : HasAt w) (A B C D : Option Addr) (n e l v : List UInt8) (a b c d k : Nat) (hA : Bs All w A n) (hB : Bs All w B e) (hC : Bs All w C l) (hD : Bs All w D v) (hk1 : 1 ≤ k) (hk8 : k ≤ 8) (hh : hasS k = 11) (hf : bodyFault 11 ⟨k, n, e, l, v⟩ = 0) :
    Calls Tryd.prog 24 #[.agg #[.int .i64 k, .slice A n.length a, .slice B e.length b, .slice C l.length c, .slice D v.length d]] w (RetBI w (encUp 11 ⟨k, n, e, l, v⟩ 4, 0)) := by
  obtain ⟨i0, hi0, hz0, hz1', hz2'⟩ := info_parts info_u8
  obtain ⟨sm1, sm2, sm3⟩ := body_small hf
  have hrq : rqFault ⟨k, n, e, l, v⟩ = 0 := by unfold rqFault; rw [if_neg (by show ¬ ¬ ((1 : Int) ≤ (k : Int) ∧ (k : Int) ≤ 8); omega)]; show bodyFault (hasS k) _ = 0; rw [hh]; exact hf
  have Hrq := Lib.hid hrq
  obtain ⟨hn8, he16⟩ : n.length ≤ 8 ∧ e.length ≤ 16 := sm1 (by decide)
  have hv32 : v.length ≤ 32 := sm3
  have Hg := Lib.hid (hT k (by omega))
  rw [hh] at Hg
  have HT := Lib.hid hT
  have HA := Lib.hid hA
  have HB := Lib.hid hB
  have HC := Lib.hid hC
  have HD := Lib.hid hD
  have hkc : (0 : Int) ≤ (k : Int) := by omega
  have hkd : (k : Int) < 9 := by omega
  have c0 : bits .and .i64 11 1 = 1 := by decide
  have x0 : ∀ W : World, (Instr.index 113 (.agg #[.slice A n.length a, .slice B e.length b, .slice C l.length c, .slice D v.length d]) (.int .i64 0)).run Tryd.prog W = .ok (.slice A n.length a) W := fun _ => by kernel_rfl
  have c1 : bits .and .i64 5 1 = 1 := by decide
  have x1 : ∀ W : World, (Instr.index 113 (.agg #[.slice A n.length a, .slice B e.length b, .slice C l.length c, .slice D v.length d]) (.int .i64 1)).run Tryd.prog W = .ok (.slice B e.length b) W := fun _ => by kernel_rfl
  have c2 : bits .and .i64 2 1 = 0 := by decide
  have x2 : ∀ W : World, (Instr.index 113 (.agg #[.slice A n.length a, .slice B e.length b, .slice C l.length c, .slice D v.length d]) (.int .i64 2)).run Tryd.prog W = .ok (.slice C l.length c) W := fun _ => by kernel_rfl
  have c3 : bits .and .i64 1 1 = 1 := by decide
  have x3 : ∀ W : World, (Instr.index 113 (.agg #[.slice A n.length a, .slice B e.length b, .slice C l.length c, .slice D v.length d]) (.int .i64 3)).run Tryd.prog W = .ok (.slice D v.length d) W := fun _ => by kernel_rfl
  have hwk := wrap_u8 k
  have Hwk := Lib.hid hwk
  have Hb0 := Lib.hid (show Below w.heap.size w (w.alloc (.cells #[.int .i64 k, .slice A n.length a, .slice B e.length b, .slice C l.length c, .slice D v.length d] 24)) from (Below.refl _ _).alloc (Nat.le_refl _) _)
  have Hbx := Lib.hid (box_new w #[.int .i64 k, .slice A n.length a, .slice B e.length b, .slice C l.length c, .slice D v.length d] 24)
  clear hA hB hC hD hT hf hrq hh sm1 sm2 sm3 hwk
  go_enter Tryd.func24, Tryd.ntmps24
  go_wp2_with (go_at_call 21; refine (wireCheck_ok _ (HT.out.below ?_) A B C D ⟨k, n, e, l, v⟩ a b c d).mono ?_; (repeat' (first | exact Below.refl _ _ | assumption | refine Below.drew ?_ | refine below_drewN ?_ _ | refine Below.alloc ?_ (by first | exact Nat.le_refl _ | omega | (simp; done) | (simp; omega)) _)); rintro e1 w1 ⟨rfl, hb1⟩; rw [Hrq.out]; have Hbw1 := Lib.hid (Hb0.out.next hb1 (by simp)); have Hbx1 := Lib.hid ((hb1.block _ (by simp)).trans Hbx.out); have hz1 : w.heap.size < w1.heap.size := (by have := hb1.size; simp at this; omega); obtain ⟨⟨g0, g1, g2, g3, g4⟩, _⟩ := box5 Hbx1.out; clear hb1)
  generalize hW : w1.alloc _ = w2
  have hx2 : w2.heap[w1.heap.size]? = some (.cells (([UInt8.ofNat k] : List UInt8).map bv).toArray 5 (0, 0)) := by
    rw [← hW]
    refine (box_new w1 _ _).trans ?_
    have hk' : (UInt8.ofNat k).toNat = k := by rw [UInt8.toNat_ofNat']; omega
    simp [bv, hk']
  have Hb12 := Lib.hid (show Below w1.heap.size w1 w2 by rw [← hW]; exact (Below.refl _ _).alloc (Nat.le_refl _) _)
  have hz2 : w2.heap.size = w1.heap.size + 1 := by rw [← hW]; simp
  clear hW
  have Hx2 := Lib.hid hx2
  clear hx2 g0 g1 g2 g3 g4
  go_loopw [5, 26] (fun v' i wr => ∃ (j : Nat) (x : Value), j ≤ 4 ∧ i = .int .i64 j ∧ v' = x ∧ wr.ownsRow w1.heap.size 5 1 x (encUp 11 ⟨k, n, e, l, v⟩ j).length ((encUp 11 ⟨k, n, e, l, v⟩ j).map bv) ∧ Below w1.heap.size w2 wr) (fun _ i _ => 4 - (intOf i).toNat)
  case atStart => exact ⟨0, _, by omega, rfl, rfl, own_blk (l := [UInt8.ofNat k]) Hx2.out (Nat.le_refl _) (by simp [maxLen]), Below.refl _ _⟩
  case round =>
    obtain ⟨j, x, hj, rfl, rfl, hown, hbel⟩ := hrel
    have Hown := Lib.hid hown
    have hbz := hbel.size
    have Hb2 := Lib.hid (Hb12.out.trans hbel)
    have Hbel := Lib.hid hbel
    have Hbw := Lib.hid (Hbw1.out.next Hb2.out (by omega))
    obtain ⟨⟨g0, g1, g2, g3, g4⟩, _⟩ := box5 ((Hb2.out.block w.heap.size (by omega)).trans Hbx1.out)
    have hcell := (Hbw.out.cell (p := ⟨0, k, none⟩) (World.block_lt_of_cell? w _ Hg.out)).trans Hg.out
    have hap : u5.ownBlock ≠ some wr.heap.size := fun hv => by have := (hown.lt _ hv).2; omega
    clear hbel hown
    rcases (by omega : j = 0 ∨ j = 1 ∨ j = 2 ∨ j = 3 ∨ j = 4) with rfl | rfl | rfl | rfl | rfl
    · have hEl : (encUp 11 ⟨k, n, e, l, v⟩ 0).length ≤ 100 := by simp [encUp, lpS, partAt]
      have Hnx := Lib.hid (enc_has (h := 11) (r := ⟨k, n, e, l, v⟩) (j := 0) (by decide))
      have hpl0 : n.length ≤ 32 := by omega
      have Hbv := Lib.hid (show bv (UInt8.ofNat n.length) = .int .u8 (n.length : Int) by unfold bv; rw [UInt8.toNat_ofNat', Nat.mod_eq_of_lt (by omega)])
      have Hp := Lib.hid (show Bs (Lo w1.heap.size) wr A n from ((HA.out.bbelow Hbw1.out).low byteR_stays (Nat.le_refl _)).bsame (Same.of_low Hb2.out))
      have hpl : n.length ≤ 32 := by omega
      generalize encUp 11 ⟨k, n, e, l, v⟩ 0 = E at *
      go_wp2_with (first
        | (at_builtin; refine wpl_app _ rfl _ _ _ rfl w1.heap.size 5 i0 (.int .u8 0) 1 1 Tryd.underlying22 hi0 hz0 hz1' hz2' rfl (by decide) u5 E.length (E.map bv) rfl (Hown.out.alloc _) (some ⟨wr.heap.size, 0, none⟩) 1 1 [bv (UInt8.ofNat n.length)] rfl rfl (by rw [Hbv.out]; exact one_src _ _ _) (by simp [bv, Value.oneCell']) (by unfold maxLen; omega) (by omega) (by simp; omega) ?_; intro v1 w3 hown1 hg1 hat1; have hz3 := hg1.size; simp at hz3; have hbA := own_below (Hown.out.alloc _) hg1 (by simp; omega))
        | (at_builtin; refine wpl_app _ rfl _ _ _ rfl w1.heap.size 5 i0 (.int .u8 0) 1 1 Tryd.underlying22 hi0 hz0 hz1' hz2' rfl (by decide) v1 (E.length + 1) _ rfl hown1 A n.length a (n.map bv) rfl (by simp) (SL.bsrc (S := Lo w1.heap.size) ((Hp.out.bsame (Same.of_low ((Below.refl _ _).alloc (by omega) _))).bsame (Same.of_low hbA))) (bv_one n) (by unfold maxLen; omega) (by omega) (by omega) ?_; intro v2 w4 hown2 hg2 hat2; have hbB := own_below hown1 hg2 (by omega)))
      go_roundw
      case rel =>
        refine ⟨1, v2, by omega, by go_num, rfl, ?_, ((Hbel.out.alloc (by omega) _).trans hbA).trans hbB⟩
        rw [Hnx.out]
        have e : E.length + 1 + n.length = (E ++ lpS (partAt ⟨k, n, e, l, v⟩ 0)).length := by simp [lpS, partAt]; omega
        rw [← e]
        simpa [lpS, partAt, List.map_append] using hown2
      case measure => simp [intOf]
    · have hEl : (encUp 11 ⟨k, n, e, l, v⟩ 1).length ≤ 100 := by simp [encUp, lpS, partAt]; omega
      have Hnx := Lib.hid (enc_has (h := 11) (r := ⟨k, n, e, l, v⟩) (j := 1) (by decide))
      have hpl0 : e.length ≤ 32 := by omega
      have Hbv := Lib.hid (show bv (UInt8.ofNat e.length) = .int .u8 (e.length : Int) by unfold bv; rw [UInt8.toNat_ofNat', Nat.mod_eq_of_lt (by omega)])
      have Hp := Lib.hid (show Bs (Lo w1.heap.size) wr B e from ((HB.out.bbelow Hbw1.out).low byteR_stays (Nat.le_refl _)).bsame (Same.of_low Hb2.out))
      have hpl : e.length ≤ 32 := by omega
      generalize encUp 11 ⟨k, n, e, l, v⟩ 1 = E at *
      go_wp2_with (first
        | (at_builtin; refine wpl_app _ rfl _ _ _ rfl w1.heap.size 5 i0 (.int .u8 0) 1 1 Tryd.underlying22 hi0 hz0 hz1' hz2' rfl (by decide) u5 E.length (E.map bv) rfl (Hown.out.alloc _) (some ⟨wr.heap.size, 0, none⟩) 1 1 [bv (UInt8.ofNat e.length)] rfl rfl (by rw [Hbv.out]; exact one_src _ _ _) (by simp [bv, Value.oneCell']) (by unfold maxLen; omega) (by omega) (by simp; omega) ?_; intro v1 w3 hown1 hg1 hat1; have hz3 := hg1.size; simp at hz3; have hbA := own_below (Hown.out.alloc _) hg1 (by simp; omega))
        | (at_builtin; refine wpl_app _ rfl _ _ _ rfl w1.heap.size 5 i0 (.int .u8 0) 1 1 Tryd.underlying22 hi0 hz0 hz1' hz2' rfl (by decide) v1 (E.length + 1) _ rfl hown1 B e.length b (e.map bv) rfl (by simp) (SL.bsrc (S := Lo w1.heap.size) ((Hp.out.bsame (Same.of_low ((Below.refl _ _).alloc (by omega) _))).bsame (Same.of_low hbA))) (bv_one e) (by unfold maxLen; omega) (by omega) (by omega) ?_; intro v2 w4 hown2 hg2 hat2; have hbB := own_below hown1 hg2 (by omega)))
      go_roundw
      case rel =>
        refine ⟨2, v2, by omega, by go_num, rfl, ?_, ((Hbel.out.alloc (by omega) _).trans hbA).trans hbB⟩
        rw [Hnx.out]
        have e : E.length + 1 + e.length = (E ++ lpS (partAt ⟨k, n, e, l, v⟩ 1)).length := by simp [lpS, partAt]; omega
        rw [← e]
        simpa [lpS, partAt, List.map_append] using hown2
      case measure => simp [intOf]
    · go_wp2
      go_roundw
      case rel => exact ⟨3, _, by omega, by go_num, rfl, by rw [enc_none (h := 11) (r := ⟨k, n, e, l, v⟩) (j := 2) (by decide)]; exact Hown.out, Hbel.out⟩
      case measure => simp [intOf]
    · have hEl : (encUp 11 ⟨k, n, e, l, v⟩ 3).length ≤ 100 := by simp [encUp, lpS, partAt]; omega
      have Hnx := Lib.hid (enc_has (h := 11) (r := ⟨k, n, e, l, v⟩) (j := 3) (by decide))
      have hpl0 : v.length ≤ 32 := by omega
      have Hbv := Lib.hid (show bv (UInt8.ofNat v.length) = .int .u8 (v.length : Int) by unfold bv; rw [UInt8.toNat_ofNat', Nat.mod_eq_of_lt (by omega)])
      have Hp := Lib.hid (show Bs (Lo w1.heap.size) wr D v from ((HD.out.bbelow Hbw1.out).low byteR_stays (Nat.le_refl _)).bsame (Same.of_low Hb2.out))
      have hpl : v.length ≤ 32 := by omega
      generalize encUp 11 ⟨k, n, e, l, v⟩ 3 = E at *
      go_wp2_with (first
        | (at_builtin; refine wpl_app _ rfl _ _ _ rfl w1.heap.size 5 i0 (.int .u8 0) 1 1 Tryd.underlying22 hi0 hz0 hz1' hz2' rfl (by decide) u5 E.length (E.map bv) rfl (Hown.out.alloc _) (some ⟨wr.heap.size, 0, none⟩) 1 1 [bv (UInt8.ofNat v.length)] rfl rfl (by rw [Hbv.out]; exact one_src _ _ _) (by simp [bv, Value.oneCell']) (by unfold maxLen; omega) (by omega) (by simp; omega) ?_; intro v1 w3 hown1 hg1 hat1; have hz3 := hg1.size; simp at hz3; have hbA := own_below (Hown.out.alloc _) hg1 (by simp; omega))
        | (at_builtin; refine wpl_app _ rfl _ _ _ rfl w1.heap.size 5 i0 (.int .u8 0) 1 1 Tryd.underlying22 hi0 hz0 hz1' hz2' rfl (by decide) v1 (E.length + 1) _ rfl hown1 D v.length d (v.map bv) rfl (by simp) (SL.bsrc (S := Lo w1.heap.size) ((Hp.out.bsame (Same.of_low ((Below.refl _ _).alloc (by omega) _))).bsame (Same.of_low hbA))) (bv_one v) (by unfold maxLen; omega) (by omega) (by omega) ?_; intro v2 w4 hown2 hg2 hat2; have hbB := own_below hown1 hg2 (by omega)))
      go_roundw
      case rel =>
        refine ⟨4, v2, by omega, by go_num, rfl, ?_, ((Hbel.out.alloc (by omega) _).trans hbA).trans hbB⟩
        rw [Hnx.out]
        have e : E.length + 1 + v.length = (E ++ lpS (partAt ⟨k, n, e, l, v⟩ 3)).length := by simp [lpS, partAt]; omega
        rw [← e]
        simpa [lpS, partAt, List.map_append] using hown2
      case measure => simp [intOf]
    · have hEl : (encUp 11 ⟨k, n, e, l, v⟩ 4).length ≤ 200 := by simp [encUp, lpS, partAt]; try omega
      generalize encUp 11 ⟨k, n, e, l, v⟩ 4 = E at *
      go_wp2
      go_ret2
      obtain ⟨A9, c9, rfl, hs9⟩ : ∃ A c, u5 = .slice A E.length c ∧ Bs (From w1.heap.size) wr A E := by
        obtain ⟨A9, c9, hr, hbs, _⟩ := ret_bs (w := w1) Hown.out Hb2.out
        exact ⟨A9, c9, by cases hr; rfl, hbs⟩
      exact ⟨A9, c9, rfl, hs9.blo (by omega), Hbw.out⟩
theorem rq_kind {r : Rq} (h : rqFault r = 0) : ∃ k : Nat, r.kind = (k : Int) ∧ 1 ≤ k ∧ k ≤ 8 ∧ bodyFault (hasS k) r = 0 := by
  unfold rqFault at h
  by_cases hk : 1 ≤ r.kind ∧ r.kind ≤ 8
  · rw [if_neg (by simpa using hk)] at h
    exact ⟨r.kind.toNat, by omega, by omega, by omega, h⟩
  · rw [if_pos hk] at h
    cases h
set_option maxRecDepth 100000 in
set_option maxHeartbeats 2000000 in
theorem wireEncode_ok (w : World) (hT : HasAt w) (A B C D : Option Addr) (r : Rq) (a b c d : Nat) (hA : Bs All w A r.name) (hB : Bs All w B r.key) (hC : Bs All w C r.last) (hD : Bs All w D r.value) :
    Calls Tryd.prog 24 #[.agg #[.int .i64 r.kind, .slice A r.name.length a, .slice B r.key.length b, .slice C r.last.length c, .slice D r.value.length d]] w (RetBI w (encR r)) := by
  by_cases hf : rqFault r = 0
  · have he : encR r = (encUp (hasS r.kind.toNat) r 4, 0) := by unfold encR; rw [if_neg (by simpa using hf)]
    obtain ⟨k, hk, h1, h8, hb⟩ := rq_kind hf
    rw [he]
    obtain ⟨i, n, e, l, v⟩ := r
    dsimp only at *
    subst hk
    rw [Int.toNat_natCast]
    rcases has_cases (k := k) h1 h8 with h | h | h | h
    · rw [h] at hb ⊢; exact wireEnc_0 w hT A B C D n e l v a b c d k hA hB hC hD h1 h8 h hb
    · rw [h] at hb ⊢; exact wireEnc_3 w hT A B C D n e l v a b c d k hA hB hC hD h1 h8 h hb
    · rw [h] at hb ⊢; exact wireEnc_7 w hT A B C D n e l v a b c d k hA hB hC hD h1 h8 h hb
    · rw [h] at hb ⊢; exact wireEnc_11 w hT A B C D n e l v a b c d k hA hB hC hD h1 h8 h hb
  · have Hv := Lib.hid (show encR r = ([], rqFault r) by unfold encR; rw [if_pos hf])
    have hf' : (rqFault r != 0) = true := by simpa using hf
    have HT := Lib.hid hT
    clear hf hT hA hB hC hD
    go_enter Tryd.func24, Tryd.ntmps24
    go_wp2_with (go_at_call 21; refine (wireCheck_ok _ (HT.out.below ?_) A B C D r a b c d).mono ?_; (repeat' (first | exact Below.refl _ _ | assumption | refine Below.drew ?_ | refine below_drewN ?_ _ | refine Below.alloc ?_ (by first | exact Nat.le_refl _ | omega | (simp; done) | (simp; omega)) _)); rintro e1 w1 ⟨rfl, hb1⟩)
    go_ret2
    rw [Hv.out]
    exact ⟨none, 0, rfl, SL.nil, (by refine Below.next ?_ hb1 (by first | (simp; done) | omega | (simp; omega)); repeat' (first | exact Below.refl _ _ | assumption | refine Below.drew ?_ | refine below_drewN ?_ _ | refine Below.alloc ?_ (by first | exact Nat.le_refl _ | omega | (simp; done) | (simp; omega)) _))⟩
end Go.Proofs.YtddppmhpdgecgaaDoor
