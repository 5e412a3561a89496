/- Walks: parities, rows of the reference. -/
import Derived.Test.YtjgdeeabejoegaaDoorDigA
import Derived.Deep.OwnRows
import Derived.Deep.RegionWith
import Derived.StillTailTactics
namespace Go.Proofs.YtjgdeeabejoegaaDoor
open Go.RowKit
set_option linter.unusedVariables false
set_option linter.unusedSimpArgs false

/-- Behind k rows of x and y items of the next: the new lanes of f, the others zero. -/
def gridT (f : Nat → Ln) (k y : Nat) : List Ln := tab 25 fun i => if i % 5 < k ∨ (i % 5 = k ∧ i / 5 < y) then f i else 0
theorem grid_len (f : Nat → Ln) (k y : Nat) : (gridT f k y).length = 25 := tab_len _ _
theorem grid_zero (f : Nat → Ln) : gridT f 0 0 = zeroS := by
  have : zeroS = tab 25 fun _ => 0 := rfl
  rw [gridT, this]
  exact tab_congr fun i _ => if_neg (by omega)
theorem grid_next (f : Nat → Ln) {k y : Nat} (hk : k < 5) (hy : y < 5) : (gridT f k y).set (k + 5 * y) (f (k + 5 * y)) = gridT f k (y + 1) := by
  rw [gridT, tab_set, gridT]
  refine tab_congr fun i hi => ?_
  by_cases h1 : i = k + 5 * y
  · rw [if_pos h1, if_pos (by omega), h1]
  · rw [if_neg h1]
    by_cases h2 : i % 5 < k ∨ (i % 5 = k ∧ i / 5 < y)
    · rw [if_pos h2, if_pos (by omega)]
    · rw [if_neg h2, if_neg (by omega)]
theorem grid_row (f : Nat → Ln) (k : Nat) : gridT f k 5 = gridT f (k + 1) 0 := by
  refine tab_congr fun i hi => ?_
  by_cases h2 : i % 5 < k + 1
  · rw [if_pos (by omega), if_pos (by omega)]
  · rw [if_neg (by omega), if_neg (by omega)]
theorem grid_all (f : Nat → Ln) : gridT f 5 0 = tab 25 f := tab_congr fun i hi => by rw [if_pos (by omega)]
theorem made_lanes (n : Nat) : madeCells #[Value.int .i64 0] n = lc (List.replicate n 0) := by
  apply Array.ext'
  rw [toList_madeCells_one]
  simp [lc]
  exact .inr rfl
theorem info_int : (Tryd.prog.info? 3).map (fun i => (i.zero, i.size, i.bytes)) = some (some (.int .i64 0), 1, 8) := by kernel_rfl
/-- Lanes in a block of their own. -/
abbrev LnB (w : World) (g : Nat) (l : List Ln) : Prop := w.heap[g]? = some (.cells (lc l) 3 (0, 0))
/-- The call returns 25 lanes in a new block. -/
def RetLn (w : World) (l : List Ln) (e : Ending) (w' : World) : Prop :=
  ∃ g, e = .returned (.slice (some ⟨g, 0, none⟩) 25 25) ∧ w.heap.size ≤ g ∧ LnB w' g l ∧ Below w.heap.size w w'
theorem LnB.set {w : World} {g : Nat} {l : List Ln} (h : LnB w g l) (k : Nat) (x : Ln) : LnB (w.setCell ⟨g, k, none⟩ (.int .i64 (iv x))) g (l.set k x) := by
  unfold LnB
  rw [heap_setCell_same _ _ _ _ _ _ h]
  exact congrArg (fun c => some (Obj.cells c _ (0, 0))) (lc_set l k x)
theorem turned_one (w : World) (x : Ln) : Calls Tryd.prog 124 #[.int .i64 (iv x), .int .i64 1] w (fun e w' => e = .returned (.int .i64 (iv (rotl x 1))) ∧ ∃ m, w' = w.drewN m) := turned_ok w x 1 (by omega)
set_option maxRecDepth 100000 in
set_option maxHeartbeats 4000000 in
theorem parities_ok (w : World) (g0 : Nat) (s : List Ln) (hs : LnB w g0 s) (hl : s.length = 25) :
    Calls Tryd.prog 94 #[.slice (some ⟨g0, 0, none⟩) 25 25] w (RetLn w (tab 25 (thetaS s))) := by
  have hmk : ∀ w : World, (Instr.makeSlice 125 (.int .i64 25) (.int .i64 25)).run Tryd.prog w = .ok (.slice (some ⟨w.heap.size, 0, none⟩) 25 25) (w.alloc (.cells (madeCells #[Value.int .i64 0] 25) 3)) := run_make_row' (P := Tryd.prog) 125 3 (.int .i64 0) 8 Tryd.underlying125 info_int rfl .i64 .i64 25 (by omega) (by omega)
  have hg0 : g0 < w.heap.size := (Array.getElem?_eq_some_iff.1 hs).1
  have Hs := Lib.hid hs
  clear hs
  go_enter Tryd.func94, Tryd.ntmps94
  go_wp2
  have H0 := Lib.hid (show LnB (w.alloc (.cells (madeCells #[Value.int .i64 0] 25) 3)) w.heap.size (gridT (thetaS s) 0 0) by rw [grid_zero, LnB]; have h := made_lanes 25; rw [h]; exact box_new w _ _)
  go_loopw [4, 5, 6, 7] (fun x _ _ _ wr => ∃ k : Nat, k ≤ 5 ∧ x = .int .i64 k ∧ LnB wr w.heap.size (gridT (thetaS s) k 0) ∧ Below w.heap.size w wr) (fun x _ _ _ _ => 5 - (intOf x).toNat)
  case atStart => exact ⟨0, by omega, rfl, H0.out, (Below.refl _ _).alloc (Nat.le_refl _) _⟩
  case round =>
    obtain ⟨k, hk, rfl, hG, hB⟩ := hrel
    have HG := Lib.hid hG
    have HB := Lib.hid hB
    have hzr : w.heap.size < wr.heap.size := (Array.getElem?_eq_some_iff.1 hG).1
    clear hG hB H0
    by_cases hlt : k < 5
    · have Hin := Lib.hid (show LnB wr g0 s from (HB.out.block g0 hg0).trans Hs.out)
      obtain ⟨y, hy⟩ : ∃ y, y = (k + 4) % 5 := ⟨_, rfl⟩
      obtain ⟨z, hz⟩ : ∃ z, z = (k + 1) % 5 := ⟨_, rfl⟩
      have m1 : IntKind.i64.wrap ((k : Int) + 4) = (k : Int) + 4 := IntWalk.i64_in _ (by omega)
      have m2 : IntKind.i64.wrap ((k : Int) + 1) = (k : Int) + 1 := IntWalk.i64_in _ (by omega)
      have m3 : ((k : Int) + 4).tmod 5 = (y : Int) := by rw [Int.tmod_eq_emod_of_nonneg (by omega)]; omega
      have m4 : ((k : Int) + 1).tmod 5 = (z : Int) := by rw [Int.tmod_eq_emod_of_nonneg (by omega)]; omega
      have hy5 : y < 5 := by omega
      have hz5 : z < 5 := by omega
      have k5 : (k : Int) < 5 := by omega
      have Hyz := Lib.hid (And.intro hy hz)
      have ht := fun w => turned_one w (colS s z)
      clear hy hz
      have hcy := column_ok wr (some ⟨g0, 0, none⟩) s 25 y (lns_block Hin.out trivial) hl hy5
      have hcz := column_ok wr (some ⟨g0, 0, none⟩) s 25 z (lns_block Hin.out trivial) hl hz5
      go_wp2_with (first
        | (go_at_call 123; (with_reducible refine hcy.mono ?_); rintro e w1 ⟨rfl, rfl⟩)
        | (go_at_call 123; (with_reducible refine hcz.mono ?_); rintro e w1 ⟨rfl, rfl⟩))
      clear hcy hcz
      go_loopw [7] (fun y w2 => ∃ j : Nat, j ≤ 5 ∧ y = .int .i64 j ∧ LnB w2 w.heap.size (gridT (thetaS s) k j) ∧ Below w.heap.size w w2) (fun y _ => 5 - (intOf y).toNat)
      case atStart => exact ⟨0, by omega, rfl, HG.out, HB.out⟩
      case round =>
        obtain ⟨j, hj, rfl, hG2, hB2⟩ := hrel
        have HG2 := Lib.hid hG2
        have HB2 := Lib.hid hB2
        have Hi2 := Lib.hid (show LnB wr g0 s from (hB2.block g0 hg0).trans Hs.out)
        clear hG2 hB2 Hin HG HB m1 m2 m3 m4
        by_cases hlt2 : j < 5
        · have Hx := Lib.hid (show bits .xor .i64 (bits .xor .i64 (iv (ga s (k + 5 * j))) (iv (colS s y))) (iv (rotl (colS s z) 1)) = iv (thetaS s (k + 5 * j)) by
            rw [iv_xor, iv_xor, thetaS, Hyz.out.1, Hyz.out.2, show (k + 5 * j) % 5 = k by omega, BitVec.xor_assoc])
          have p1 : IntKind.i64.wrap (5 * (j : Int)) = 5 * (j : Int) := IntWalk.i64_in _ (by omega)
          have p2 : IntKind.i64.wrap ((k : Int) + 5 * (j : Int)) = (k : Int) + 5 * (j : Int) := IntWalk.i64_in _ (by omega)
          have p3 : (0 : Int) ≤ (k : Int) + 5 * (j : Int) := by omega
          have p4 : (k : Int) + 5 * (j : Int) < 25 := by omega
          have p5 : ((k : Int) + 5 * (j : Int)).toNat = k + 5 * j := by omega
          have p7 : (j : Int) < 5 := by omega
          have p6 : IntKind.i64.wrap ((j : Int) + 1) = (j : Int) + 1 := IntWalk.i64_in _ (by omega)
          go_wp2_with fail
          have c1 : wr.cell? ⟨g0, k + 5 * j, none⟩ = some (.int .i64 (iv (ga s (k + 5 * j)))) := lc_cell Hi2.out (by omega)
          have c2 := lc_cell HG2.out (k := k + 5 * j) (by rw [grid_len]; omega)
          have f2 := lc_free HG2.out (k + 5 * j)
          go_region_with ((go_at_call 124; (with_reducible refine (ht _).mono ?_); rintro e w1 ⟨rfl, m, rfl⟩))
          all_goals
            go_wp2
            go_roundw
            case rel =>
              refine ⟨j + 1, by omega, by go_num, ?_, (below_drewN HB2.out _).setCell (Nat.le_refl _) _⟩
              rw [← grid_next (thetaS s) hlt hlt2, Hx.out]
              exact (show LnB (wr.drewN (1 + m)) w.heap.size (gridT (thetaS s) k j) from HG2.out).set _ _
            case measure => simp [intOf]; omega
        · have HGe := Lib.hid (show LnB wr w.heap.size (gridT (thetaS s) (k + 1) 0) by have h := HG2.out; rwa [show j = 5 by omega, grid_row] at h)
          have hn5 : ¬ (j : Int) < 5 := by omega
          have p1 : IntKind.i64.wrap ((k : Int) + 1) = (k : Int) + 1 := IntWalk.i64_in _ (by omega)
          clear hlt2 hj HG2
          go_wp2
          go_roundw
          case rel => exact ⟨k + 1, by omega, by go_num, HGe.out, HB2.out⟩
          case measure => simp [intOf]; omega
    · have HGe := Lib.hid (show LnB wr w.heap.size (tab 25 (thetaS s)) by have h := HG.out; rwa [show k = 5 by omega, grid_all] at h)
      have hn5 : ¬ (k : Int) < 5 := by omega
      clear hlt hk HG
      go_wp2
      go_ret
      exact ⟨_, rfl, Nat.le_refl _, HGe.out, HB.out⟩
set_option maxRecDepth 100000 in
set_option maxHeartbeats 4000000 in
theorem rows_ok (w : World) (g0 : Nat) (s : List Ln) (hs : LnB w g0 s) (hl : s.length = 25) :
    Calls Tryd.prog 96 #[.slice (some ⟨g0, 0, none⟩) 25 25] w (RetLn w (tab 25 (chiS s))) := by
  have hmk : ∀ w : World, (Instr.makeSlice 125 (.int .i64 25) (.int .i64 25)).run Tryd.prog w = .ok (.slice (some ⟨w.heap.size, 0, none⟩) 25 25) (w.alloc (.cells (madeCells #[Value.int .i64 0] 25) 3)) := run_make_row' (P := Tryd.prog) 125 3 (.int .i64 0) 8 Tryd.underlying125 info_int rfl .i64 .i64 25 (by omega) (by omega)
  have hg0 : g0 < w.heap.size := (Array.getElem?_eq_some_iff.1 hs).1
  have Hs := Lib.hid hs
  clear hs
  go_enter Tryd.func96, Tryd.ntmps96
  go_wp2
  have H0 := Lib.hid (show LnB (w.alloc (.cells (madeCells #[Value.int .i64 0] 25) 3)) w.heap.size (gridT (chiS s) 0 0) by rw [grid_zero, LnB]; have h := made_lanes 25; rw [h]; exact box_new w _ _)
  go_loopw [4, 5, 6] (fun x _ _ wr => ∃ k : Nat, k ≤ 5 ∧ x = .int .i64 k ∧ LnB wr w.heap.size (gridT (chiS s) k 0) ∧ Below w.heap.size w wr) (fun x _ _ _ => 5 - (intOf x).toNat)
  case atStart => exact ⟨0, by omega, rfl, H0.out, (Below.refl _ _).alloc (Nat.le_refl _) _⟩
  case round =>
    obtain ⟨k, hk, rfl, hG, hB⟩ := hrel
    have HG := Lib.hid hG
    have HB := Lib.hid hB
    have hzr : w.heap.size < wr.heap.size := (Array.getElem?_eq_some_iff.1 hG).1
    clear hG hB H0
    by_cases hlt : k < 5
    · have k5 : (k : Int) < 5 := by omega
      go_wp2
      go_loopw [5, 6] (fun y _ w2 => ∃ j : Nat, j ≤ 5 ∧ y = .int .i64 j ∧ LnB w2 w.heap.size (gridT (chiS s) k j) ∧ Below w.heap.size w w2) (fun y _ _ => 5 - (intOf y).toNat)
      case atStart => exact ⟨0, by omega, rfl, HG.out, HB.out⟩
      case round =>
        obtain ⟨j, hj, rfl, hG2, hB2⟩ := hrel
        have HG2 := Lib.hid hG2
        have HB2 := Lib.hid hB2
        clear hG2 hB2 HG HB
        by_cases hlt2 : j < 5
        · obtain ⟨y, hy⟩ : ∃ y, y = (k + 1) % 5 := ⟨_, rfl⟩
          obtain ⟨z, hz⟩ : ∃ z, z = (k + 2) % 5 := ⟨_, rfl⟩
          have m1 : IntKind.i64.wrap ((k : Int) + 1) = (k : Int) + 1 := IntWalk.i64_in _ (by omega)
          have m2 : IntKind.i64.wrap ((k : Int) + 2) = (k : Int) + 2 := IntWalk.i64_in _ (by omega)
          have m3 : ((k : Int) + 1).tmod 5 = (y : Int) := by rw [Int.tmod_eq_emod_of_nonneg (by omega)]; omega
          have m4 : ((k : Int) + 2).tmod 5 = (z : Int) := by rw [Int.tmod_eq_emod_of_nonneg (by omega)]; omega
          have hy5 : y < 5 := by omega
          have hz5 : z < 5 := by omega
          have Hx := Lib.hid (show bits .xor .i64 (iv (ga s (k + 5 * j))) (bits .and .i64 (iv (~~~ ga s (y + 5 * j))) (iv (ga s (z + 5 * j)))) = iv (chiS s (k + 5 * j)) by
            rw [iv_and, iv_xor, chiS, show ((k + 5 * j) % 5 + 1) % 5 + (k + 5 * j) / 5 * 5 = y + 5 * j by omega, show ((k + 5 * j) % 5 + 2) % 5 + (k + 5 * j) / 5 * 5 = z + 5 * j by omega])
          have mn := iv_not (ga s (y + 5 * j))
          clear hy hz
          have p1 : IntKind.i64.wrap (5 * (j : Int)) = 5 * (j : Int) := IntWalk.i64_in _ (by omega)
          have p2 : IntKind.i64.wrap ((k : Int) + 5 * (j : Int)) = (k : Int) + 5 * (j : Int) := IntWalk.i64_in _ (by omega)
          have p3 : (0 : Int) ≤ (k : Int) + 5 * (j : Int) := by omega
          have p4 : (k : Int) + 5 * (j : Int) < 25 := by omega
          have p5 : ((k : Int) + 5 * (j : Int)).toNat = k + 5 * j := by omega
          have p7 : (j : Int) < 5 := by omega
          have p6 : IntKind.i64.wrap ((j : Int) + 1) = (j : Int) + 1 := IntWalk.i64_in _ (by omega)
          have y2 : IntKind.i64.wrap ((y : Int) + 5 * (j : Int)) = (y : Int) + 5 * (j : Int) := IntWalk.i64_in _ (by omega)
          have y3 : (0 : Int) ≤ (y : Int) + 5 * (j : Int) := by omega
          have y4 : (y : Int) + 5 * (j : Int) < 25 := by omega
          have y5 : ((y : Int) + 5 * (j : Int)).toNat = y + 5 * j := by omega
          have z2 : IntKind.i64.wrap ((z : Int) + 5 * (j : Int)) = (z : Int) + 5 * (j : Int) := IntWalk.i64_in _ (by omega)
          have z3 : (0 : Int) ≤ (z : Int) + 5 * (j : Int) := by omega
          have z4 : (z : Int) + 5 * (j : Int) < 25 := by omega
          have z5 : ((z : Int) + 5 * (j : Int)).toNat = z + 5 * j := by omega
          have c1 : wr.cell? ⟨g0, y + 5 * j, none⟩ = some (.int .i64 (iv (ga s (y + 5 * j)))) := lc_cell (show LnB wr g0 s from (HB2.out.block g0 hg0).trans Hs.out) (by omega)
          have Hd := Lib.hid (show LnB wr.drew g0 s ∧ LnB wr.drew w.heap.size (gridT (chiS s) k j) ∧ Below w.heap.size w wr.drew from ⟨(HB2.out.block g0 hg0).trans Hs.out, HG2.out, HB2.out.drew⟩)
          go_wp2_with fail
          refine wp_region_still_tail 25 (by kernel_rfl) (by kernel_rfl) ?_
          change wpStill _ _ wr.drew (fun a' => wpList _ _ _ _ a' wr.drew) _ _
          generalize wr.drew = wd at Hd ⊢
          have c1 : wd.cell? ⟨g0, k + 5 * j, none⟩ = some (.int .i64 (iv (ga s (k + 5 * j)))) := lc_cell Hd.out.1 (by omega)
          have c3 : wd.cell? ⟨g0, z + 5 * j, none⟩ = some (.int .i64 (iv (ga s (z + 5 * j)))) := lc_cell Hd.out.1 (by omega)
          have c2 := lc_cell Hd.out.2.1 (k := k + 5 * j) (by rw [grid_len]; omega)
          have f2 := lc_free Hd.out.2.1 (k + 5 * j)
          (simp only [List.take_succ_cons, List.take_zero, List.drop_succ_cons, List.drop_zero]; (repeat (refine wpStill_step (fun K hK => ?_); go_simp; refine hK _ ?_; clear hK K)); try refine wpStill_nil ?_)
          go_wp2
          go_roundw
          case rel =>
            refine ⟨j + 1, by omega, by go_num, ?_, Hd.out.2.2.setCell (Nat.le_refl _) _⟩
            have e := LnB.set Hd.out.2.1 (k + 5 * j) (chiS s (k + 5 * j))
            rw [← Hx.out] at e
            rw [← grid_next (chiS s) hlt hlt2]
            exact e
          case measure => simp [intOf]; omega
        · have HGe := Lib.hid (show LnB wr w.heap.size (gridT (chiS s) (k + 1) 0) by have h := HG2.out; rwa [show j = 5 by omega, grid_row] at h)
          have hn5 : ¬ (j : Int) < 5 := by omega
          have p1 : IntKind.i64.wrap ((k : Int) + 1) = (k : Int) + 1 := IntWalk.i64_in _ (by omega)
          clear hlt2 hj HG2
          go_wp2
          go_roundw
          case rel => exact ⟨k + 1, by omega, by go_num, HGe.out, HB2.out⟩
          case measure => simp [intOf]; omega
    · have HGe := Lib.hid (show LnB wr w.heap.size (tab 25 (chiS s)) by have h := HG.out; rwa [show k = 5 by omega, grid_all] at h)
      have hn5 : ¬ (k : Int) < 5 := by omega
      clear hlt hk HG
      go_wp2
      go_ret
      exact ⟨_, rfl, Nat.le_refl _, HGe.out, HB.out⟩
end Go.Proofs.YtjgdeeabejoegaaDoor
