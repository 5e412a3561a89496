/- Walks: moved, roundNumbers of the reference. -/
import Derived.Test.YtjgdeeabejoegaaDoorDigB
import Derived.Test.YtjgdeeabejoegaaDoorDigL
namespace Go.Proofs.YtjgdeeabejoegaaDoor
open Go.RowKit
set_option linter.unusedVariables false
set_option linter.unusedSimpArgs false

theorem tm64 {a n : Nat} (h : a % 64 = n) : (a : Int).tmod 64 = (n : Int) := by rw [Int.tmod_eq_emod_of_nonneg (by omega)]; omega
def oldS (s : List Ln) : List Ln := zeroS.set 0 (ga s 0)
theorem old_len (s : List Ln) : (oldS s).length = 25 := rfl
theorem old_zero (s : List Ln) : ga (oldS s) 0 = ga s 0 := rfl
set_option maxRecDepth 100000 in
set_option maxHeartbeats 4000000 in
theorem moved_ok (w : World) (g0 : Nat) (s : List Ln) (hs : LnB w g0 s) (hl : s.length = 25) :
    Calls Tryd.prog 95 #[.slice (some ⟨g0, 0, none⟩) 25 25] w (RetLn w (movesS s)) := by
  have hmk : ∀ w : World, (Instr.makeSlice 125 (.int .i64 25) (.int .i64 25)).run Tryd.prog w = .ok (.slice (some ⟨w.heap.size, 0, none⟩) 25 25) (w.alloc (.cells (madeCells #[Value.int .i64 0] 25) 3)) := run_make_row' (P := Tryd.prog) 125 3 (.int .i64 0) 8 Tryd.underlying125 info_int rfl .i64 .i64 25 (by omega) (by omega)
  have hg0 : g0 < w.heap.size := (Array.getElem?_eq_some_iff.1 hs).1
  have Hs := Lib.hid hs
  clear hs
  have H0 := Lib.hid (show LnB (w.alloc (.cells (madeCells #[Value.int .i64 0] 25) 3)) w.heap.size zeroS by rw [LnB]; have h := made_lanes 25; rw [h]; exact box_new w _ _)
  have c0 : w.cell? ⟨g0, 0, none⟩ = some (.int .i64 (iv (ga s 0))) := lc_cell Hs.out (by omega)
  have c1 : (w.alloc (.cells (madeCells #[Value.int .i64 0] 25) 3)).cell? ⟨w.heap.size, 0, none⟩ = some (.int .i64 (iv (ga zeroS 0))) := lc_cell H0.out (by decide)
  have f1 : (w.alloc (.cells (madeCells #[Value.int .i64 0] 25) 3)).frozen? ⟨w.heap.size, 0, none⟩ = false := lc_free H0.out 0
  have e1 : (w.alloc (.cells (madeCells #[Value.int .i64 0] 25) 3)).cell? ⟨g0, 0, none⟩ = some (.int .i64 (iv (ga s 0))) := (Below.refl _ _ |>.alloc (Nat.le_refl _) _ |>.cell hg0).trans c0
  obtain ⟨W0, hW⟩ : ∃ W0, W0 = w.alloc (.cells (madeCells #[Value.int .i64 0] 25) 3) := ⟨_, rfl⟩
  rw [← hW] at H0 c1 f1 e1
  have hmk0 := hmk w
  rw [← hW] at hmk0
  have Hb0 := Lib.hid (show Below w.heap.size w W0 by rw [hW]; exact (Below.refl _ _).alloc (Nat.le_refl _) _)
  clear hmk hW c0
  go_enter Tryd.func95, Tryd.ntmps95
  go_wp2
  have H1 := Lib.hid (show LnB (W0.setCell ⟨w.heap.size, 0, none⟩ (.int .i64 (iv (ga s 0)))) w.heap.size (movesT (oldS s) s 0) by rw [moves_zero (old_len s)]; exact LnB.set H0.out 0 _)
  go_loopw [4, 5, 6, 7] (fun x y t _ wr => ∃ k : Nat, k ≤ 24 ∧ x = .int .i64 (mx k : Nat) ∧ y = .int .i64 (my k : Nat) ∧ t = .int .i64 k ∧ LnB wr w.heap.size (movesT (oldS s) s k) ∧ Below w.heap.size w wr) (fun _ _ t _ _ => 24 - (intOf t).toNat)
  case atStart => exact ⟨0, by omega, rfl, rfl, rfl, H1.out, Hb0.out.setCell (Nat.le_refl _) _⟩
  case round =>
    clear H0 H1 Hb0 c1 f1 e1 hmk0
    obtain ⟨k, hk, rfl, rfl, rfl, hG, hB⟩ := hrel
    have HG := Lib.hid hG
    have HB := Lib.hid hB
    clear hG hB
    by_cases hlt : k < 24
    · obtain ⟨f1, f2, f3, f4, f5, f6, f7⟩ := mv_facts k hlt
      have hgo := (go_lt k hlt).1
      have hsr := src_lt k (by omega)
      obtain ⟨x, hx⟩ : ∃ x, x = mx k := ⟨_, rfl⟩
      obtain ⟨y, hy⟩ : ∃ y, y = my k := ⟨_, rfl⟩
      obtain ⟨u, hu⟩ : ∃ u, u = (2 * x + 3 * y) % 5 := ⟨_, rfl⟩
      obtain ⟨n, hn⟩ : ∃ n, n = tnS k := ⟨_, rfl⟩
      obtain ⟨pr, hpr⟩ : ∃ pr, pr = (k + 1) * (k + 2) := ⟨_, rfl⟩
      obtain ⟨h2, hh2⟩ : ∃ h2, h2 = pr / 2 := ⟨_, rfl⟩
      have hprb : pr ≤ 24 * 25 := by rw [hpr]; exact Nat.mul_le_mul (by omega) (by omega)
      rw [← hx] at f1
      rw [← hy] at f2
      rw [← hx, ← hy] at f3
      rw [← hx, ← hy, ← hu] at f4
      rw [← hy] at f5
      rw [← hx, ← hy, ← hu] at f6
      rw [← hpr, ← hn, ← hh2] at f7
      have hn63 : n < 64 := by omega
      have hu5 : u < 5 := by omega
      have Hm1 := Lib.hid f5
      have Hm2 := Lib.hid f6
      have m1 : IntKind.i64.wrap (2 * (x : Int)) = 2 * (x : Int) := IntWalk.i64_in _ (by omega)
      have m2 : IntKind.i64.wrap (3 * (y : Int)) = 3 * (y : Int) := IntWalk.i64_in _ (by omega)
      have m3 : IntKind.i64.wrap (2 * (x : Int) + 3 * (y : Int)) = 2 * (x : Int) + 3 * (y : Int) := IntWalk.i64_in _ (by omega)
      have m4 : (2 * (x : Int) + 3 * (y : Int)).tmod 5 = (u : Int) := by rw [Int.tmod_eq_emod_of_nonneg (by omega)]; omega
      have m5 : IntKind.i64.wrap (5 * (u : Int)) = 5 * (u : Int) := IntWalk.i64_in _ (by omega)
      have m6 : IntKind.i64.wrap ((y : Int) + 5 * (u : Int)) = (y : Int) + 5 * (u : Int) := IntWalk.i64_in _ (by omega)
      have m7 : IntKind.i64.wrap (5 * (y : Int)) = 5 * (y : Int) := IntWalk.i64_in _ (by omega)
      have m8 : IntKind.i64.wrap ((x : Int) + 5 * (y : Int)) = (x : Int) + 5 * (y : Int) := IntWalk.i64_in _ (by omega)
      have p1 : IntKind.i64.wrap ((k : Int) + 1) = (k : Int) + 1 := IntWalk.i64_in _ (by omega)
      have p2 : IntKind.i64.wrap ((k : Int) + 2) = (k : Int) + 2 := IntWalk.i64_in _ (by omega)
      have p3 : IntKind.i64.wrap (((k : Int) + 1) * ((k : Int) + 2)) = (pr : Int) := by
        have e : ((k : Int) + 1) * ((k : Int) + 2) = (pr : Int) := by rw [hpr]; simp
        rw [e]
        exact IntWalk.i64_in _ (by omega)
      have p4 : (pr : Int).tdiv 2 = (h2 : Int) := by rw [Int.tdiv_eq_ediv_of_nonneg (by omega)]; omega
      have p6 : IntKind.i64.wrap (h2 : Int) = (h2 : Int) := IntWalk.i64_in _ (by omega)
      have p5 : (h2 : Int).tmod 64 = (n : Int) := tm64 f7
      have q1 : (0 : Int) ≤ (y : Int) + 5 * (u : Int) := by omega
      have q2 : (y : Int) + 5 * (u : Int) < 25 := by omega
      have q3 : ((y : Int) + 5 * (u : Int)).toNat = y + 5 * u := by omega
      have q4 : (0 : Int) ≤ (x : Int) + 5 * (y : Int) := by omega
      have q5 : (x : Int) + 5 * (y : Int) < 25 := by omega
      have q6 : ((x : Int) + 5 * (y : Int)).toNat = x + 5 * y := by omega
      have k24 : (k : Int) < 24 := by omega
      have hwr : w.heap.size < wr.heap.size := (Array.getElem?_eq_some_iff.1 HG.out).1
      have Hn := Lib.hid (show (movesT (oldS s) s k).set (y + 5 * u) (rotl (ga s (x + 5 * y)) n) = movesT (oldS s) s (k + 1) by rw [f3, f4, hn]; exact moves_next _ s hlt)
      have c1 : wr.cell? ⟨g0, x + 5 * y, none⟩ = some (.int .i64 (iv (ga s (x + 5 * y)))) := lc_cell (show LnB wr g0 s from (HB.out.block g0 hg0).trans Hs.out) (by omega)
      have c2 := lc_cell HG.out (k := y + 5 * u) (by rw [movesT, tab_len]; omega)
      have fz := lc_free HG.out (y + 5 * u)
      have ht := fun w => turned_ok w (ga s (x + 5 * y)) n hn63
      rw [← hx, ← hy]
      clear f1 f2 f3 f4 f5 f6 f7 hx hy hu hn hpr hh2 hgo hsr
      go_wp2_with ((go_at_call 124; (with_reducible refine (ht _).mono ?_); rintro e w1 ⟨rfl, m, rfl⟩))
      go_roundw
      case rel =>
        refine ⟨k + 1, by omega, ?_, ?_, by go_num, ?_, (below_drewN HB.out _).setCell (Nat.le_refl _) _⟩
        · rw [Hm1.out]
        · rw [Hm2.out]
        · rw [← Hn.out]
          exact (show LnB (wr.drewN m) w.heap.size (movesT (oldS s) s k) from HG.out).set _ _
      case measure => simp [intOf]; omega
    · have HGe := Lib.hid (show LnB wr w.heap.size (movesS s) by have h := HG.out; rwa [show k = 24 by omega, moves_all (old_zero s)] at h)
      have hn5 : ¬ (k : Int) < 24 := by omega
      clear hlt hk HG
      go_wp2
      go_ret
      exact ⟨_, rfl, Nat.le_refl _, HGe.out, HB.out⟩
end Go.Proofs.YtjgdeeabejoegaaDoor
