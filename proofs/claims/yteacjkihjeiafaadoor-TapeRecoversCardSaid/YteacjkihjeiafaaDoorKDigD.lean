/- DigD: Walks: lanes of the references: power, turned, column. Walks: parities, rows of the reference. Walks: moved, roundNumbers of the reference. Walk: roundNumbers of the reference. Walk: Digested of the reference. The conditions of each are in its words. -/
import Derived.Deep.OwnRows
import Derived.Deep.RegionWith
import Derived.StillTailTactics
import Derived.Test.YteacjkihjeiafaaDoorKKec
import Derived.Test.YteacjkihjeiafaaDoorKBase
namespace Go.Proofs.YteacjkihjeiafaaDoor
open Go.RowKit
set_option linter.unusedVariables false
set_option linter.unusedSimpArgs false

/-- One cell: a lane with its sign. -/
def LnR (_ : Nat → Prop) (_ : World) (cs : List Value) (x : Ln) : Prop := cs = [.int .i64 (iv x)]
theorem lnR_stays : Stays LnR := ⟨fun _ _ _ _ _ _ h => h, fun _ _ _ _ _ _ h => h⟩
abbrev Lns (S : Nat → Prop) (w : World) (A : Option Addr) (l : List Ln) : Prop := SL 1 LnR S w A l
theorem lns_at {S : Nat → Prop} {w : World} {A : Option Addr} {l : List Ln} (h : Lns S w A l) (hl : 0 < l.length) :
    ∃ b off, A = some ⟨b, off, none⟩ ∧ S b ∧ b < w.heap.size ∧ ∀ k, k < l.length → w.cell? ⟨b, off + k, none⟩ = some (.int .i64 (iv (ga l k))) := by
  obtain ⟨b, off, e, h0, h1, hi⟩ := h hl
  refine ⟨b, off, e, h0, h1, fun k hk => ?_⟩
  obtain ⟨cs, _, h2, h3⟩ := hi k hk
  have h4 : cs = [.int .i64 (iv l[k])] := h3
  subst h4
  have h5 := h2 0 (by omega)
  rw [Nat.mul_one, Nat.add_zero] at h5
  rw [h5, ga, List.getD_eq_getElem?_getD, List.getElem?_eq_getElem hk]
  rfl
/-- The cells of lanes. -/
def lc (l : List Ln) : Array Value := (l.map fun x => Value.int .i64 (iv x)).toArray
theorem lc_size (l : List Ln) : (lc l).size = l.length := by simp [lc]
theorem lc_set (l : List Ln) (i : Nat) (x : Ln) : (lc l).setIfInBounds i (.int .i64 (iv x)) = lc (l.set i x) := by
  unfold lc
  rw [List.setIfInBounds_toArray, List.map_set]
theorem lc_cell {w : World} {g : Nat} {t : TypeId} {l : List Ln} (h : w.heap[g]? = some (.cells (lc l) t (0, 0))) {k : Nat} (hk : k < l.length) : w.cell? ⟨g, k, none⟩ = some (.int .i64 (iv (ga l k))) := by
  rw [box_cell (cs := l.map fun x => Value.int .i64 (iv x)) h k, List.getElem?_map, List.getElem?_eq_getElem hk, ga, List.getD_eq_getElem?_getD, List.getElem?_eq_getElem hk]
  rfl
theorem lc_free {w : World} {g : Nat} {t : TypeId} {l : List Ln} (h : w.heap[g]? = some (.cells (lc l) t (0, 0))) (k : Nat) : w.frozen? ⟨g, k, none⟩ = false := box_frozen (cs := l.map fun x => Value.int .i64 (iv x)) h k
theorem lns_block {S : Nat → Prop} {w : World} {g : Nat} {t : TypeId} {l : List Ln} (h : w.heap[g]? = some (.cells (lc l) t (0, 0))) (hS : S g) : Lns S w (some ⟨g, 0, none⟩) l := by
  intro _
  refine ⟨g, 0, rfl, hS, (Array.getElem?_eq_some_iff.1 h).1, fun i hi => ⟨[.int .i64 (iv l[i])], rfl, fun j hj => ?_, rfl⟩⟩
  obtain rfl : j = 0 := by omega
  have := lc_cell h hi
  rw [Nat.zero_add, Nat.mul_one, Nat.add_zero, this, ga, List.getD_eq_getElem?_getD, List.getElem?_eq_getElem hi]
  rfl
/-- Mixed so far: the first n lanes of one x. -/
def colT (s : List Ln) (x : Nat) : Nat → Ln
  | 0 => 0
  | n + 1 => colT s x n ^^^ ga s (x + 5 * n)
theorem colT_five (s : List Ln) (x : Nat) : colT s x 5 = colS s x := by simp [colT, colS]
set_option maxRecDepth 100000 in
set_option maxHeartbeats 1000000 in
theorem power_ok (w : World) (n : Nat) (hn : n ≤ 64) :
    Calls Tryd.prog 130 #[.int .i64 n] w (fun e w' => e = .returned (.int .i64 (iv (pw n))) ∧ w' = w) := by
  go_enter Tryd.func130, Tryd.ntmps130
  have h1 : (1 : Int) = iv (pw 0) := rfl
  go_wp2
  go_loopw [3, 4] (fun p i wr => ∃ k : Nat, k ≤ n ∧ i = .int .i64 k ∧ p = .int .i64 (iv (pw k)) ∧ wr = w) (fun _ i _ => n - (intOf i).toNat)
  case atStart => exact ⟨0, by omega, rfl, rfl, rfl⟩
  case round =>
    obtain ⟨k, hk, rfl, rfl, rfl⟩ := hrel
    have Hn := Lib.hid (pw_next k)
    by_cases hlt : k < n
    · go_wp2
      go_roundw
      case rel =>
        refine ⟨k + 1, by omega, by go_num, ?_, trivial⟩
        rw [← Hn.out, IntWalk.i64_left]
      case measure => simp [intOf]; omega
    · obtain rfl : k = n := by omega
      go_wp2
      go_ret
      exact ⟨rfl, rfl⟩
set_option maxRecDepth 100000 in
set_option maxHeartbeats 1000000 in
theorem turned_ok (w : World) (x : Ln) (n : Nat) (hn : n < 64) :
    Calls Tryd.prog 132 #[.int .i64 (iv x), .int .i64 n] w (fun e w' => e = .returned (.int .i64 (iv (rotl x n))) ∧ ∃ m, w' = w.drewN m) := by
  by_cases h0 : n = 0
  · subst h0
    have Hr := Lib.hid (rotl_zero x)
    go_enter Tryd.func132, Tryd.ntmps132
    go_wp2
    go_ret
    exact ⟨by rw [Hr.out]; rfl, 0, rfl⟩
  · have Hr := Lib.hid (turned_bits' x hn)
    have h1 : ((n : Int) == 0) = false := by simp; exact h0
    have h2 : IntKind.i64.wrap (64 - (n : Int)) = ((64 - n : Nat) : Int) := by rw [IntWalk.i64_in _ (by omega)]; omega
    have h3 : (0 : Int) ≤ 64 - (n : Int) := by omega
    go_enter Tryd.func132, Tryd.ntmps132
    go_wp2_with fail
    go_quiet ((go_at_call 130; exact Calls.quiet_of_same (power_ok _ n (by omega))))
    go_wp2_with (go_at_call 130; refine (power_ok _ n (by omega)).mono ?_; rintro e w1 ⟨rfl, rfl⟩)
    go_ret
    refine ⟨?_, _, rfl⟩
    rw [← Hr.out, IntWalk.i64_left, IntWalk.i64_left]
    rfl
set_option maxRecDepth 100000 in
set_option maxHeartbeats 1000000 in
theorem column_ok (w : World) (A : Option Addr) (s : List Ln) (c x : Nat) (hs : Lns All w A s) (hl : s.length = 25) (hx : x < 5) :
    Calls Tryd.prog 131 #[.slice A 25 c, .int .i64 x] w (fun e w' => e = .returned (.int .i64 (iv (colS s x))) ∧ w' = w) := by
  obtain ⟨g, off, rfl, _, hg, hc⟩ := lns_at hs (by omega)
  have Hc := Lib.hid hc
  have Hv := Lib.hid (colT_five s x)
  clear hc hs
  go_enter Tryd.func131, Tryd.ntmps131
  go_wp2
  go_loopw [5, 6] (fun p i wr => ∃ k : Nat, k ≤ 5 ∧ i = .int .i64 k ∧ p = .int .i64 (iv (colT s x k)) ∧ wr = w) (fun _ i _ => 5 - (intOf i).toNat)
  case atStart => exact ⟨0, by omega, rfl, rfl, rfl⟩
  case round =>
    obtain ⟨k, hk, rfl, rfl, rfl⟩ := hrel
    by_cases hlt : k < 5
    · have hcell := Hc.out (x + 5 * k) (by omega)
      have Hx := Lib.hid (iv_xor (colT s x k) (ga s (x + 5 * k)))
      have m1 : IntKind.i64.wrap (5 * (k : Int)) = 5 * (k : Int) := IntWalk.i64_in _ (by omega)
      have m2 : IntKind.i64.wrap ((x : Int) + 5 * (k : Int)) = (x : Int) + 5 * (k : Int) := IntWalk.i64_in _ (by omega)
      have m3 : (0 : Int) ≤ (x : Int) + 5 * (k : Int) := by omega
      have m4 : (x : Int) + 5 * (k : Int) < 25 := by omega
      have m5 : ((x : Int) + 5 * (k : Int)).toNat = x + 5 * k := by omega
      go_wp2
      go_roundw
      case rel =>
        refine ⟨k + 1, by omega, by go_num, ?_, trivial⟩
        rw [colT, ← Hx.out]
      case measure => simp [intOf]; omega
    · obtain rfl : k = 5 := by omega
      go_wp2
      go_ret
      exact ⟨by rw [← Hv.out]; rfl, rfl⟩
end Go.Proofs.YteacjkihjeiafaaDoor
namespace Go.Proofs.YteacjkihjeiafaaDoor
open Go.RowKit
set_option linter.unusedVariables false
set_option linter.unusedSimpArgs false

/-- Behind k rows of x and y items of the next: the new lanes of f, the others zero. -/
def gridT (f : Nat → Ln) (k y : Nat) : List Ln := tab 25 fun i => if i % 5 < k ∨ (i % 5 = k ∧ i / 5 < y) then f i else 0
theorem grid_len (f : Nat → Ln) (k y : Nat) : (gridT f k y).length = 25 := tab_len _ _
theorem grid_zero (f : Nat → Ln) : gridT f 0 0 = zeroS := by
  have : zeroS = tab 25 fun _ => 0 := rfl
  rw [gridT, this]
  exact tab_congr fun i _ => if_neg (by omega)
theorem grid_next (f : Nat → Ln) {k y : Nat} (hk : k < 5) (hy : y < 5) : (gridT f k y).set (k + 5 * y) (f (k + 5 * y)) = gridT f k (y + 1) := by
  rw [gridT, tab_set, gridT]
  refine tab_congr fun i hi => ?_
  by_cases h1 : i = k + 5 * y
  · rw [if_pos h1, if_pos (by omega), h1]
  · rw [if_neg h1]
    by_cases h2 : i % 5 < k ∨ (i % 5 = k ∧ i / 5 < y)
    · rw [if_pos h2, if_pos (by omega)]
    · rw [if_neg h2, if_neg (by omega)]
theorem grid_row (f : Nat → Ln) (k : Nat) : gridT f k 5 = gridT f (k + 1) 0 := by
  refine tab_congr fun i hi => ?_
  by_cases h2 : i % 5 < k + 1
  · rw [if_pos (by omega), if_pos (by omega)]
  · rw [if_neg (by omega), if_neg (by omega)]
theorem grid_all (f : Nat → Ln) : gridT f 5 0 = tab 25 f := tab_congr fun i hi => by rw [if_pos (by omega)]
theorem made_lanes (n : Nat) : madeCells #[Value.int .i64 0] n = lc (List.replicate n 0) := by
  apply Array.ext'
  rw [toList_madeCells_one]
  simp [lc]
  exact .inr rfl
theorem info_int : (Tryd.prog.info? 3).map (fun i => (i.zero, i.size, i.bytes)) = some (some (.int .i64 0), 1, 8) := by kernel_rfl
/-- Lanes in a block of their own. -/
abbrev LnB (w : World) (g : Nat) (l : List Ln) : Prop := w.heap[g]? = some (.cells (lc l) 3 (0, 0))
/-- The call returns 25 lanes in a new block. -/
def RetLn (w : World) (l : List Ln) (e : Ending) (w' : World) : Prop :=
  ∃ g, e = .returned (.slice (some ⟨g, 0, none⟩) 25 25) ∧ w.heap.size ≤ g ∧ LnB w' g l ∧ Below w.heap.size w w'
theorem LnB.set {w : World} {g : Nat} {l : List Ln} (h : LnB w g l) (k : Nat) (x : Ln) : LnB (w.setCell ⟨g, k, none⟩ (.int .i64 (iv x))) g (l.set k x) := by
  unfold LnB
  rw [heap_setCell_same _ _ _ _ _ _ h]
  exact congrArg (fun c => some (Obj.cells c _ (0, 0))) (lc_set l k x)
theorem turned_one (w : World) (x : Ln) : Calls Tryd.prog 132 #[.int .i64 (iv x), .int .i64 1] w (fun e w' => e = .returned (.int .i64 (iv (rotl x 1))) ∧ ∃ m, w' = w.drewN m) := turned_ok w x 1 (by omega)
set_option maxRecDepth 100000 in
set_option maxHeartbeats 4000000 in
theorem parities_ok (w : World) (g0 : Nat) (s : List Ln) (hs : LnB w g0 s) (hl : s.length = 25) :
    Calls Tryd.prog 95 #[.slice (some ⟨g0, 0, none⟩) 25 25] w (RetLn w (tab 25 (thetaS s))) := by
  have hmk : ∀ w : World, (Instr.makeSlice 119 (.int .i64 25) (.int .i64 25)).run Tryd.prog w = .ok (.slice (some ⟨w.heap.size, 0, none⟩) 25 25) (w.alloc (.cells (madeCells #[Value.int .i64 0] 25) 3)) := run_make_row' (P := Tryd.prog) 119 3 (.int .i64 0) 8 Tryd.underlying119 info_int rfl .i64 .i64 25 (by omega) (by omega)
  have hg0 : g0 < w.heap.size := (Array.getElem?_eq_some_iff.1 hs).1
  have Hs := Lib.hid hs
  clear hs
  go_enter Tryd.func95, Tryd.ntmps95
  go_wp2
  have H0 := Lib.hid (show LnB (w.alloc (.cells (madeCells #[Value.int .i64 0] 25) 3)) w.heap.size (gridT (thetaS s) 0 0) by rw [grid_zero, LnB]; have h := made_lanes 25; rw [h]; exact box_new w _ _)
  go_loopw [4, 5, 6, 7] (fun x _ _ _ wr => ∃ k : Nat, k ≤ 5 ∧ x = .int .i64 k ∧ LnB wr w.heap.size (gridT (thetaS s) k 0) ∧ Below w.heap.size w wr) (fun x _ _ _ _ => 5 - (intOf x).toNat)
  case atStart => exact ⟨0, by omega, rfl, H0.out, (Below.refl _ _).alloc (Nat.le_refl _) _⟩
  case round =>
    obtain ⟨k, hk, rfl, hG, hB⟩ := hrel
    have HG := Lib.hid hG
    have HB := Lib.hid hB
    have hzr : w.heap.size < wr.heap.size := (Array.getElem?_eq_some_iff.1 hG).1
    clear hG hB H0
    by_cases hlt : k < 5
    · have Hin := Lib.hid (show LnB wr g0 s from (HB.out.block g0 hg0).trans Hs.out)
      obtain ⟨y, hy⟩ : ∃ y, y = (k + 4) % 5 := ⟨_, rfl⟩
      obtain ⟨z, hz⟩ : ∃ z, z = (k + 1) % 5 := ⟨_, rfl⟩
      have m1 : IntKind.i64.wrap ((k : Int) + 4) = (k : Int) + 4 := IntWalk.i64_in _ (by omega)
      have m2 : IntKind.i64.wrap ((k : Int) + 1) = (k : Int) + 1 := IntWalk.i64_in _ (by omega)
      have m3 : ((k : Int) + 4).tmod 5 = (y : Int) := by rw [Int.tmod_eq_emod_of_nonneg (by omega)]; omega
      have m4 : ((k : Int) + 1).tmod 5 = (z : Int) := by rw [Int.tmod_eq_emod_of_nonneg (by omega)]; omega
      have hy5 : y < 5 := by omega
      have hz5 : z < 5 := by omega
      have k5 : (k : Int) < 5 := by omega
      have Hyz := Lib.hid (And.intro hy hz)
      have ht := fun w => turned_one w (colS s z)
      clear hy hz
      have hcy := column_ok wr (some ⟨g0, 0, none⟩) s 25 y (lns_block Hin.out trivial) hl hy5
      have hcz := column_ok wr (some ⟨g0, 0, none⟩) s 25 z (lns_block Hin.out trivial) hl hz5
      go_wp2_with (first
        | (go_at_call 131; (with_reducible refine hcy.mono ?_); rintro e w1 ⟨rfl, rfl⟩)
        | (go_at_call 131; (with_reducible refine hcz.mono ?_); rintro e w1 ⟨rfl, rfl⟩))
      clear hcy hcz
      go_loopw [7] (fun y w2 => ∃ j : Nat, j ≤ 5 ∧ y = .int .i64 j ∧ LnB w2 w.heap.size (gridT (thetaS s) k j) ∧ Below w.heap.size w w2) (fun y _ => 5 - (intOf y).toNat)
      case atStart => exact ⟨0, by omega, rfl, HG.out, HB.out⟩
      case round =>
        obtain ⟨j, hj, rfl, hG2, hB2⟩ := hrel
        have HG2 := Lib.hid hG2
        have HB2 := Lib.hid hB2
        have Hi2 := Lib.hid (show LnB wr g0 s from (hB2.block g0 hg0).trans Hs.out)
        clear hG2 hB2 Hin HG HB m1 m2 m3 m4
        by_cases hlt2 : j < 5
        · have Hx := Lib.hid (show bits .xor .i64 (bits .xor .i64 (iv (ga s (k + 5 * j))) (iv (colS s y))) (iv (rotl (colS s z) 1)) = iv (thetaS s (k + 5 * j)) by
            rw [iv_xor, iv_xor, thetaS, Hyz.out.1, Hyz.out.2, show (k + 5 * j) % 5 = k by omega, BitVec.xor_assoc])
          have p1 : IntKind.i64.wrap (5 * (j : Int)) = 5 * (j : Int) := IntWalk.i64_in _ (by omega)
          have p2 : IntKind.i64.wrap ((k : Int) + 5 * (j : Int)) = (k : Int) + 5 * (j : Int) := IntWalk.i64_in _ (by omega)
          have p3 : (0 : Int) ≤ (k : Int) + 5 * (j : Int) := by omega
          have p4 : (k : Int) + 5 * (j : Int) < 25 := by omega
          have p5 : ((k : Int) + 5 * (j : Int)).toNat = k + 5 * j := by omega
          have p7 : (j : Int) < 5 := by omega
          have p6 : IntKind.i64.wrap ((j : Int) + 1) = (j : Int) + 1 := IntWalk.i64_in _ (by omega)
          go_wp2_with fail
          have c1 : wr.cell? ⟨g0, k + 5 * j, none⟩ = some (.int .i64 (iv (ga s (k + 5 * j)))) := lc_cell Hi2.out (by omega)
          have c2 := lc_cell HG2.out (k := k + 5 * j) (by rw [grid_len]; omega)
          have f2 := lc_free HG2.out (k + 5 * j)
          go_region_with ((go_at_call 132; (with_reducible refine (ht _).mono ?_); rintro e w1 ⟨rfl, m, rfl⟩))
          all_goals
            go_wp2
            go_roundw
            case rel =>
              refine ⟨j + 1, by omega, by go_num, ?_, (below_drewN HB2.out _).setCell (Nat.le_refl _) _⟩
              rw [← grid_next (thetaS s) hlt hlt2, Hx.out]
              exact (show LnB (wr.drewN (1 + m)) w.heap.size (gridT (thetaS s) k j) from HG2.out).set _ _
            case measure => simp [intOf]; omega
        · have HGe := Lib.hid (show LnB wr w.heap.size (gridT (thetaS s) (k + 1) 0) by have h := HG2.out; rwa [show j = 5 by omega, grid_row] at h)
          have hn5 : ¬ (j : Int) < 5 := by omega
          have p1 : IntKind.i64.wrap ((k : Int) + 1) = (k : Int) + 1 := IntWalk.i64_in _ (by omega)
          clear hlt2 hj HG2
          go_wp2
          go_roundw
          case rel => exact ⟨k + 1, by omega, by go_num, HGe.out, HB2.out⟩
          case measure => simp [intOf]; omega
    · have HGe := Lib.hid (show LnB wr w.heap.size (tab 25 (thetaS s)) by have h := HG.out; rwa [show k = 5 by omega, grid_all] at h)
      have hn5 : ¬ (k : Int) < 5 := by omega
      clear hlt hk HG
      go_wp2
      go_ret
      exact ⟨_, rfl, Nat.le_refl _, HGe.out, HB.out⟩
set_option maxRecDepth 100000 in
set_option maxHeartbeats 4000000 in
theorem rows_ok (w : World) (g0 : Nat) (s : List Ln) (hs : LnB w g0 s) (hl : s.length = 25) :
    Calls Tryd.prog 97 #[.slice (some ⟨g0, 0, none⟩) 25 25] w (RetLn w (tab 25 (chiS s))) := by
  have hmk : ∀ w : World, (Instr.makeSlice 119 (.int .i64 25) (.int .i64 25)).run Tryd.prog w = .ok (.slice (some ⟨w.heap.size, 0, none⟩) 25 25) (w.alloc (.cells (madeCells #[Value.int .i64 0] 25) 3)) := run_make_row' (P := Tryd.prog) 119 3 (.int .i64 0) 8 Tryd.underlying119 info_int rfl .i64 .i64 25 (by omega) (by omega)
  have hg0 : g0 < w.heap.size := (Array.getElem?_eq_some_iff.1 hs).1
  have Hs := Lib.hid hs
  clear hs
  go_enter Tryd.func97, Tryd.ntmps97
  go_wp2
  have H0 := Lib.hid (show LnB (w.alloc (.cells (madeCells #[Value.int .i64 0] 25) 3)) w.heap.size (gridT (chiS s) 0 0) by rw [grid_zero, LnB]; have h := made_lanes 25; rw [h]; exact box_new w _ _)
  go_loopw [4, 5, 6] (fun x _ _ wr => ∃ k : Nat, k ≤ 5 ∧ x = .int .i64 k ∧ LnB wr w.heap.size (gridT (chiS s) k 0) ∧ Below w.heap.size w wr) (fun x _ _ _ => 5 - (intOf x).toNat)
  case atStart => exact ⟨0, by omega, rfl, H0.out, (Below.refl _ _).alloc (Nat.le_refl _) _⟩
  case round =>
    obtain ⟨k, hk, rfl, hG, hB⟩ := hrel
    have HG := Lib.hid hG
    have HB := Lib.hid hB
    have hzr : w.heap.size < wr.heap.size := (Array.getElem?_eq_some_iff.1 hG).1
    clear hG hB H0
    by_cases hlt : k < 5
    · have k5 : (k : Int) < 5 := by omega
      go_wp2
      go_loopw [5, 6] (fun y _ w2 => ∃ j : Nat, j ≤ 5 ∧ y = .int .i64 j ∧ LnB w2 w.heap.size (gridT (chiS s) k j) ∧ Below w.heap.size w w2) (fun y _ _ => 5 - (intOf y).toNat)
      case atStart => exact ⟨0, by omega, rfl, HG.out, HB.out⟩
      case round =>
        obtain ⟨j, hj, rfl, hG2, hB2⟩ := hrel
        have HG2 := Lib.hid hG2
        have HB2 := Lib.hid hB2
        clear hG2 hB2 HG HB
        by_cases hlt2 : j < 5
        · obtain ⟨y, hy⟩ : ∃ y, y = (k + 1) % 5 := ⟨_, rfl⟩
          obtain ⟨z, hz⟩ : ∃ z, z = (k + 2) % 5 := ⟨_, rfl⟩
          have m1 : IntKind.i64.wrap ((k : Int) + 1) = (k : Int) + 1 := IntWalk.i64_in _ (by omega)
          have m2 : IntKind.i64.wrap ((k : Int) + 2) = (k : Int) + 2 := IntWalk.i64_in _ (by omega)
          have m3 : ((k : Int) + 1).tmod 5 = (y : Int) := by rw [Int.tmod_eq_emod_of_nonneg (by omega)]; omega
          have m4 : ((k : Int) + 2).tmod 5 = (z : Int) := by rw [Int.tmod_eq_emod_of_nonneg (by omega)]; omega
          have hy5 : y < 5 := by omega
          have hz5 : z < 5 := by omega
          have Hx := Lib.hid (show bits .xor .i64 (iv (ga s (k + 5 * j))) (bits .and .i64 (iv (~~~ ga s (y + 5 * j))) (iv (ga s (z + 5 * j)))) = iv (chiS s (k + 5 * j)) by
            rw [iv_and, iv_xor, chiS, show ((k + 5 * j) % 5 + 1) % 5 + (k + 5 * j) / 5 * 5 = y + 5 * j by omega, show ((k + 5 * j) % 5 + 2) % 5 + (k + 5 * j) / 5 * 5 = z + 5 * j by omega])
          have mn := iv_not (ga s (y + 5 * j))
          clear hy hz
          have p1 : IntKind.i64.wrap (5 * (j : Int)) = 5 * (j : Int) := IntWalk.i64_in _ (by omega)
          have p2 : IntKind.i64.wrap ((k : Int) + 5 * (j : Int)) = (k : Int) + 5 * (j : Int) := IntWalk.i64_in _ (by omega)
          have p3 : (0 : Int) ≤ (k : Int) + 5 * (j : Int) := by omega
          have p4 : (k : Int) + 5 * (j : Int) < 25 := by omega
          have p5 : ((k : Int) + 5 * (j : Int)).toNat = k + 5 * j := by omega
          have p7 : (j : Int) < 5 := by omega
          have p6 : IntKind.i64.wrap ((j : Int) + 1) = (j : Int) + 1 := IntWalk.i64_in _ (by omega)
          have y2 : IntKind.i64.wrap ((y : Int) + 5 * (j : Int)) = (y : Int) + 5 * (j : Int) := IntWalk.i64_in _ (by omega)
          have y3 : (0 : Int) ≤ (y : Int) + 5 * (j : Int) := by omega
          have y4 : (y : Int) + 5 * (j : Int) < 25 := by omega
          have y5 : ((y : Int) + 5 * (j : Int)).toNat = y + 5 * j := by omega
          have z2 : IntKind.i64.wrap ((z : Int) + 5 * (j : Int)) = (z : Int) + 5 * (j : Int) := IntWalk.i64_in _ (by omega)
          have z3 : (0 : Int) ≤ (z : Int) + 5 * (j : Int) := by omega
          have z4 : (z : Int) + 5 * (j : Int) < 25 := by omega
          have z5 : ((z : Int) + 5 * (j : Int)).toNat = z + 5 * j := by omega
          have c1 : wr.cell? ⟨g0, y + 5 * j, none⟩ = some (.int .i64 (iv (ga s (y + 5 * j)))) := lc_cell (show LnB wr g0 s from (HB2.out.block g0 hg0).trans Hs.out) (by omega)
          have Hd := Lib.hid (show LnB wr.drew g0 s ∧ LnB wr.drew w.heap.size (gridT (chiS s) k j) ∧ Below w.heap.size w wr.drew from ⟨(HB2.out.block g0 hg0).trans Hs.out, HG2.out, HB2.out.drew⟩)
          go_wp2_with fail
          refine wp_region_still_tail 25 (by kernel_rfl) (by kernel_rfl) ?_
          change wpStill _ _ wr.drew (fun a' => wpList _ _ _ _ a' wr.drew) _ _
          generalize wr.drew = wd at Hd ⊢
          have c1 : wd.cell? ⟨g0, k + 5 * j, none⟩ = some (.int .i64 (iv (ga s (k + 5 * j)))) := lc_cell Hd.out.1 (by omega)
          have c3 : wd.cell? ⟨g0, z + 5 * j, none⟩ = some (.int .i64 (iv (ga s (z + 5 * j)))) := lc_cell Hd.out.1 (by omega)
          have c2 := lc_cell Hd.out.2.1 (k := k + 5 * j) (by rw [grid_len]; omega)
          have f2 := lc_free Hd.out.2.1 (k + 5 * j)
          (simp only [List.take_succ_cons, List.take_zero, List.drop_succ_cons, List.drop_zero]; (repeat (refine wpStill_step (fun K hK => ?_); go_simp; refine hK _ ?_; clear hK K)); try refine wpStill_nil ?_)
          go_wp2
          go_roundw
          case rel =>
            refine ⟨j + 1, by omega, by go_num, ?_, Hd.out.2.2.setCell (Nat.le_refl _) _⟩
            have e := LnB.set Hd.out.2.1 (k + 5 * j) (chiS s (k + 5 * j))
            rw [← Hx.out] at e
            rw [← grid_next (chiS s) hlt hlt2]
            exact e
          case measure => simp [intOf]; omega
        · have HGe := Lib.hid (show LnB wr w.heap.size (gridT (chiS s) (k + 1) 0) by have h := HG2.out; rwa [show j = 5 by omega, grid_row] at h)
          have hn5 : ¬ (j : Int) < 5 := by omega
          have p1 : IntKind.i64.wrap ((k : Int) + 1) = (k : Int) + 1 := IntWalk.i64_in _ (by omega)
          clear hlt2 hj HG2
          go_wp2
          go_roundw
          case rel => exact ⟨k + 1, by omega, by go_num, HGe.out, HB2.out⟩
          case measure => simp [intOf]; omega
    · have HGe := Lib.hid (show LnB wr w.heap.size (tab 25 (chiS s)) by have h := HG.out; rwa [show k = 5 by omega, grid_all] at h)
      have hn5 : ¬ (k : Int) < 5 := by omega
      clear hlt hk HG
      go_wp2
      go_ret
      exact ⟨_, rfl, Nat.le_refl _, HGe.out, HB.out⟩
end Go.Proofs.YteacjkihjeiafaaDoor
namespace Go.Proofs.YteacjkihjeiafaaDoor
open Go.RowKit
set_option linter.unusedVariables false
set_option linter.unusedSimpArgs false

theorem tm64 {a n : Nat} (h : a % 64 = n) : (a : Int).tmod 64 = (n : Int) := by rw [Int.tmod_eq_emod_of_nonneg (by omega)]; omega
def oldS (s : List Ln) : List Ln := zeroS.set 0 (ga s 0)
theorem old_len (s : List Ln) : (oldS s).length = 25 := rfl
theorem old_zero (s : List Ln) : ga (oldS s) 0 = ga s 0 := rfl
set_option maxRecDepth 100000 in
set_option maxHeartbeats 4000000 in
theorem moved_ok (w : World) (g0 : Nat) (s : List Ln) (hs : LnB w g0 s) (hl : s.length = 25) :
    Calls Tryd.prog 96 #[.slice (some ⟨g0, 0, none⟩) 25 25] w (RetLn w (movesS s)) := by
  have hmk : ∀ w : World, (Instr.makeSlice 119 (.int .i64 25) (.int .i64 25)).run Tryd.prog w = .ok (.slice (some ⟨w.heap.size, 0, none⟩) 25 25) (w.alloc (.cells (madeCells #[Value.int .i64 0] 25) 3)) := run_make_row' (P := Tryd.prog) 119 3 (.int .i64 0) 8 Tryd.underlying119 info_int rfl .i64 .i64 25 (by omega) (by omega)
  have hg0 : g0 < w.heap.size := (Array.getElem?_eq_some_iff.1 hs).1
  have Hs := Lib.hid hs
  clear hs
  have H0 := Lib.hid (show LnB (w.alloc (.cells (madeCells #[Value.int .i64 0] 25) 3)) w.heap.size zeroS by rw [LnB]; have h := made_lanes 25; rw [h]; exact box_new w _ _)
  have c0 : w.cell? ⟨g0, 0, none⟩ = some (.int .i64 (iv (ga s 0))) := lc_cell Hs.out (by omega)
  have c1 : (w.alloc (.cells (madeCells #[Value.int .i64 0] 25) 3)).cell? ⟨w.heap.size, 0, none⟩ = some (.int .i64 (iv (ga zeroS 0))) := lc_cell H0.out (by decide)
  have f1 : (w.alloc (.cells (madeCells #[Value.int .i64 0] 25) 3)).frozen? ⟨w.heap.size, 0, none⟩ = false := lc_free H0.out 0
  have e1 : (w.alloc (.cells (madeCells #[Value.int .i64 0] 25) 3)).cell? ⟨g0, 0, none⟩ = some (.int .i64 (iv (ga s 0))) := (Below.refl _ _ |>.alloc (Nat.le_refl _) _ |>.cell hg0).trans c0
  obtain ⟨W0, hW⟩ : ∃ W0, W0 = w.alloc (.cells (madeCells #[Value.int .i64 0] 25) 3) := ⟨_, rfl⟩
  rw [← hW] at H0 c1 f1 e1
  have hmk0 := hmk w
  rw [← hW] at hmk0
  have Hb0 := Lib.hid (show Below w.heap.size w W0 by rw [hW]; exact (Below.refl _ _).alloc (Nat.le_refl _) _)
  clear hmk hW c0
  go_enter Tryd.func96, Tryd.ntmps96
  go_wp2
  have H1 := Lib.hid (show LnB (W0.setCell ⟨w.heap.size, 0, none⟩ (.int .i64 (iv (ga s 0)))) w.heap.size (movesT (oldS s) s 0) by rw [moves_zero (old_len s)]; exact LnB.set H0.out 0 _)
  go_loopw [4, 5, 6, 7] (fun x y t _ wr => ∃ k : Nat, k ≤ 24 ∧ x = .int .i64 (mx k : Nat) ∧ y = .int .i64 (my k : Nat) ∧ t = .int .i64 k ∧ LnB wr w.heap.size (movesT (oldS s) s k) ∧ Below w.heap.size w wr) (fun _ _ t _ _ => 24 - (intOf t).toNat)
  case atStart => exact ⟨0, by omega, rfl, rfl, rfl, H1.out, Hb0.out.setCell (Nat.le_refl _) _⟩
  case round =>
    clear H0 H1 Hb0 c1 f1 e1 hmk0
    obtain ⟨k, hk, rfl, rfl, rfl, hG, hB⟩ := hrel
    have HG := Lib.hid hG
    have HB := Lib.hid hB
    clear hG hB
    by_cases hlt : k < 24
    · obtain ⟨f1, f2, f3, f4, f5, f6, f7⟩ := mv_facts k hlt
      have hgo := (go_lt k hlt).1
      have hsr := src_lt k (by omega)
      obtain ⟨x, hx⟩ : ∃ x, x = mx k := ⟨_, rfl⟩
      obtain ⟨y, hy⟩ : ∃ y, y = my k := ⟨_, rfl⟩
      obtain ⟨u, hu⟩ : ∃ u, u = (2 * x + 3 * y) % 5 := ⟨_, rfl⟩
      obtain ⟨n, hn⟩ : ∃ n, n = tnS k := ⟨_, rfl⟩
      obtain ⟨pr, hpr⟩ : ∃ pr, pr = (k + 1) * (k + 2) := ⟨_, rfl⟩
      obtain ⟨h2, hh2⟩ : ∃ h2, h2 = pr / 2 := ⟨_, rfl⟩
      have hprb : pr ≤ 24 * 25 := by rw [hpr]; exact Nat.mul_le_mul (by omega) (by omega)
      rw [← hx] at f1
      rw [← hy] at f2
      rw [← hx, ← hy] at f3
      rw [← hx, ← hy, ← hu] at f4
      rw [← hy] at f5
      rw [← hx, ← hy, ← hu] at f6
      rw [← hpr, ← hn, ← hh2] at f7
      have hn63 : n < 64 := by omega
      have hu5 : u < 5 := by omega
      have Hm1 := Lib.hid f5
      have Hm2 := Lib.hid f6
      have m1 : IntKind.i64.wrap (2 * (x : Int)) = 2 * (x : Int) := IntWalk.i64_in _ (by omega)
      have m2 : IntKind.i64.wrap (3 * (y : Int)) = 3 * (y : Int) := IntWalk.i64_in _ (by omega)
      have m3 : IntKind.i64.wrap (2 * (x : Int) + 3 * (y : Int)) = 2 * (x : Int) + 3 * (y : Int) := IntWalk.i64_in _ (by omega)
      have m4 : (2 * (x : Int) + 3 * (y : Int)).tmod 5 = (u : Int) := by rw [Int.tmod_eq_emod_of_nonneg (by omega)]; omega
      have m5 : IntKind.i64.wrap (5 * (u : Int)) = 5 * (u : Int) := IntWalk.i64_in _ (by omega)
      have m6 : IntKind.i64.wrap ((y : Int) + 5 * (u : Int)) = (y : Int) + 5 * (u : Int) := IntWalk.i64_in _ (by omega)
      have m7 : IntKind.i64.wrap (5 * (y : Int)) = 5 * (y : Int) := IntWalk.i64_in _ (by omega)
      have m8 : IntKind.i64.wrap ((x : Int) + 5 * (y : Int)) = (x : Int) + 5 * (y : Int) := IntWalk.i64_in _ (by omega)
      have p1 : IntKind.i64.wrap ((k : Int) + 1) = (k : Int) + 1 := IntWalk.i64_in _ (by omega)
      have p2 : IntKind.i64.wrap ((k : Int) + 2) = (k : Int) + 2 := IntWalk.i64_in _ (by omega)
      have p3 : IntKind.i64.wrap (((k : Int) + 1) * ((k : Int) + 2)) = (pr : Int) := by
        have e : ((k : Int) + 1) * ((k : Int) + 2) = (pr : Int) := by rw [hpr]; simp
        rw [e]
        exact IntWalk.i64_in _ (by omega)
      have p4 : (pr : Int).tdiv 2 = (h2 : Int) := by rw [Int.tdiv_eq_ediv_of_nonneg (by omega)]; omega
      have p6 : IntKind.i64.wrap (h2 : Int) = (h2 : Int) := IntWalk.i64_in _ (by omega)
      have p5 : (h2 : Int).tmod 64 = (n : Int) := tm64 f7
      have q1 : (0 : Int) ≤ (y : Int) + 5 * (u : Int) := by omega
      have q2 : (y : Int) + 5 * (u : Int) < 25 := by omega
      have q3 : ((y : Int) + 5 * (u : Int)).toNat = y + 5 * u := by omega
      have q4 : (0 : Int) ≤ (x : Int) + 5 * (y : Int) := by omega
      have q5 : (x : Int) + 5 * (y : Int) < 25 := by omega
      have q6 : ((x : Int) + 5 * (y : Int)).toNat = x + 5 * y := by omega
      have k24 : (k : Int) < 24 := by omega
      have hwr : w.heap.size < wr.heap.size := (Array.getElem?_eq_some_iff.1 HG.out).1
      have Hn := Lib.hid (show (movesT (oldS s) s k).set (y + 5 * u) (rotl (ga s (x + 5 * y)) n) = movesT (oldS s) s (k + 1) by rw [f3, f4, hn]; exact moves_next _ s hlt)
      have c1 : wr.cell? ⟨g0, x + 5 * y, none⟩ = some (.int .i64 (iv (ga s (x + 5 * y)))) := lc_cell (show LnB wr g0 s from (HB.out.block g0 hg0).trans Hs.out) (by omega)
      have c2 := lc_cell HG.out (k := y + 5 * u) (by rw [movesT, tab_len]; omega)
      have fz := lc_free HG.out (y + 5 * u)
      have ht := fun w => turned_ok w (ga s (x + 5 * y)) n hn63
      rw [← hx, ← hy]
      clear f1 f2 f3 f4 f5 f6 f7 hx hy hu hn hpr hh2 hgo hsr
      go_wp2_with ((go_at_call 132; (with_reducible refine (ht _).mono ?_); rintro e w1 ⟨rfl, m, rfl⟩))
      go_roundw
      case rel =>
        refine ⟨k + 1, by omega, ?_, ?_, by go_num, ?_, (below_drewN HB.out _).setCell (Nat.le_refl _) _⟩
        · rw [Hm1.out]
        · rw [Hm2.out]
        · rw [← Hn.out]
          exact (show LnB (wr.drewN m) w.heap.size (movesT (oldS s) s k) from HG.out).set _ _
      case measure => simp [intOf]; omega
    · have HGe := Lib.hid (show LnB wr w.heap.size (movesS s) by have h := HG.out; rwa [show k = 24 by omega, moves_all (old_zero s)] at h)
      have hn5 : ¬ (k : Int) < 24 := by omega
      clear hlt hk HG
      go_wp2
      go_ret
      exact ⟨_, rfl, Nat.le_refl _, HGe.out, HB.out⟩
end Go.Proofs.YteacjkihjeiafaaDoor
namespace Go.Proofs.YteacjkihjeiafaaDoor
open Go.RowKit
set_option linter.unusedVariables false
set_option linter.unusedSimpArgs false

def zc (l : List Ln) : List Value := l.map fun x => Value.int .i64 (iv x)
/-- The call returns the 24 numbers in a new block. -/
def RetNums (w : World) (e : Ending) (w' : World) : Prop :=
  ∃ g c, e = .returned (.slice (some ⟨g, 0, none⟩) 24 c) ∧ w.heap.size ≤ g ∧ g < w'.heap.size ∧ (∀ k, k < 24 → w'.cell? ⟨g, k, none⟩ = some (.int .i64 (iv (rcS k)))) ∧ Below w.heap.size w w'
theorem regS_next (k j : Nat) : regS (7 * k + (j + 1)) = regStep (regS (7 * k + j)) := rfl
set_option maxRecDepth 100000 in
set_option maxHeartbeats 4000000 in
theorem roundNumbers_ok (w : World) : Calls Tryd.prog 94 #[] w (RetNums w) := by
  obtain ⟨i0, hi0, hz0, hz1, hz2⟩ := info_parts info_int
  have Hz := Lib.hid (show (0 : Int) = iv (bitsT 0 0) from rfl)
  go_enter Tryd.func94, Tryd.ntmps94
  go_wp2
  go_loopw [1, 2, 3, 4, 5, 6] (fun v r n _ _ _ wr => ∃ k : Nat, k ≤ 24 ∧ wr.ownsRow w.heap.size 3 1 v k (zc (numsS k)) ∧ r = .int .i64 ((regS (7 * k) : Nat) : Int) ∧ n = .int .i64 k ∧ Below w.heap.size w wr) (fun _ _ n _ _ _ _ => 24 - (intOf n).toNat)
  case atStart => exact ⟨0, by omega, World.ownsRow_nil _ _ _ _, rfl, rfl, Below.refl _ _⟩
  case round =>
    obtain ⟨k, hk, hown, rfl, rfl, hbel⟩ := hrel
    have Hown := Lib.hid hown
    have Hbel := Lib.hid hbel
    clear hown hbel
    by_cases hlt : k < 24
    · have k24 : (k : Int) < 24 := by omega
      go_wp2
      obtain ⟨wm, rfl⟩ : ∃ wm : World, wm = wr := ⟨_, rfl⟩
      go_loopw [2, 4, 5, 6] (fun r l p n wr => ∃ j : Nat, j ≤ 7 ∧ r = .int .i64 ((regS (7 * k + j) : Nat) : Int) ∧ l = .int .i64 (iv (bitsT k j)) ∧ p = .int .i64 ((2 ^ j : Nat) : Int) ∧ n = .int .i64 j ∧ wr = wm) (fun _ _ _ n _ => 7 - (intOf n).toNat)
      case atStart => exact ⟨0, by omega, rfl, rfl, rfl, rfl, rfl⟩
      case round =>
        obtain ⟨j, hj, rfl, rfl, rfl, rfl, rfl⟩ := hrel
        have Hrn := Lib.hid (regS_next k j)
        have hrl := reg_lt (7 * k + j)
        have Hbn := Lib.hid (show bitsT k (j + 1) = if regS (7 * k + j) % 2 = 1 then bitsT k j + pw (2 ^ j - 1) else bitsT k j from rfl)
        obtain ⟨r, hr⟩ : ∃ r, r = regS (7 * k + j) := ⟨_, rfl⟩
        have Hr0 := Lib.hid hr
        rw [← hr] at Hrn Hbn hrl ⊢
        clear hr
        by_cases hlt2 : j < 7
        · have j7 : (j : Int) < 7 := by omega
          have hpb : 2 ^ j ≤ 64 := by
            have h : 2 ^ j ≤ 2 ^ 6 := Nat.pow_le_pow_right (by omega) (by omega)
            exact h
          have hp0 : 0 < 2 ^ j := Nat.pow_pos (by omega)
          have hp2 : 2 ^ (j + 1) = 2 * 2 ^ j := by rw [Nat.pow_succ, Nat.mul_comm]
          obtain ⟨p, hp⟩ : ∃ p, p = 2 ^ j := ⟨_, rfl⟩
          rw [← hp] at hpb hp0 hp2 Hbn ⊢
          have Hp2 := Lib.hid hp2
          obtain ⟨pn, hpn⟩ : ∃ pn, pn = p - 1 := ⟨_, rfl⟩
          rw [← hpn] at Hbn
          obtain ⟨m, hm⟩ : ∃ m, m = r % 2 := ⟨_, rfl⟩
          have t1 : (r : Int).tmod 2 = (m : Int) := by rw [Int.tmod_eq_emod_of_nonneg (by omega)]; omega
          have t2 : IntKind.i64.wrap ((p : Int) - 1) = (pn : Int) := by rw [IntWalk.i64_in _ (by omega)]; omega
          have t3 : IntKind.i64.wrap (2 * (p : Int)) = 2 * (p : Int) := IntWalk.i64_in _ (by omega)
          have t4 : IntKind.i64.wrap (2 * (r : Int)) = 2 * (r : Int) := IntWalk.i64_in _ (by omega)
          have hpw := power_ok wr pn (by omega)
          have Hadd := Lib.hid (iv_add (bitsT k j) (pw pn))
          have Hm := Lib.hid hm
          by_cases h1 : m = 1 <;> by_cases h2 : 255 < 2 * r
          all_goals
            first
              | have z1 : ((m : Int) == 1) = true := by simp; omega
              | have z1 : ((m : Int) == 1) = false := by simp; omega
            first
              | have z2 : (255 : Int) < 2 * (r : Int) := by omega
              | have z2 : ¬ (255 : Int) < 2 * (r : Int) := by omega
          · obtain ⟨a, ha⟩ : ∃ a, a = 2 * r - 256 := ⟨_, rfl⟩
            have t5 : IntKind.i64.wrap (2 * (r : Int) - 256) = (a : Int) := by rw [IntWalk.i64_in _ (by omega)]; omega
            have t6 : bits .xor .i64 (a : Int) 113 = ((a ^^^ 113 : Nat) : Int) := xor_small (a := a) (b := 113) (by omega) (by omega)
            have Hrr := Lib.hid (show regS (7 * k + (j + 1)) = a ^^^ 113 by rw [Hrn.out, regStep, if_pos h2, ha])
            have Hbb := Lib.hid (show bitsT k (j + 1) = bitsT k j + pw pn by rw [Hbn.out, if_pos (by omega)])
            generalize a ^^^ 113 = x at *
            subst h1
            clear hp hp2 hpn hm ha Hrn Hbn
            go_wp2_with ((go_at_call 130; (with_reducible refine hpw.mono ?_); rintro e w1 ⟨rfl, rfl⟩))
            go_roundw
            case rel => exact ⟨j + 1, by omega, by rw [Hrr.out], by rw [Hbb.out, ← Hadd.out, IntWalk.i64_left], by rw [Hp2.out]; go_num, by go_num, trivial⟩
            case measure => simp [intOf]; omega
          · have Hrr := Lib.hid (show regS (7 * k + (j + 1)) = 2 * r by rw [Hrn.out, regStep, if_neg h2])
            have Hbb := Lib.hid (show bitsT k (j + 1) = bitsT k j + pw pn by rw [Hbn.out, if_pos (by omega)])
            subst h1
            clear hp hp2 hpn hm Hrn Hbn
            go_wp2_with ((go_at_call 130; (with_reducible refine hpw.mono ?_); rintro e w1 ⟨rfl, rfl⟩))
            go_roundw
            case rel => exact ⟨j + 1, by omega, by rw [Hrr.out]; go_num, by rw [Hbb.out, ← Hadd.out, IntWalk.i64_left], by rw [Hp2.out]; go_num, by go_num, trivial⟩
            case measure => simp [intOf]; omega
          · obtain ⟨a, ha⟩ : ∃ a, a = 2 * r - 256 := ⟨_, rfl⟩
            have t5 : IntKind.i64.wrap (2 * (r : Int) - 256) = (a : Int) := by rw [IntWalk.i64_in _ (by omega)]; omega
            have t6 : bits .xor .i64 (a : Int) 113 = ((a ^^^ 113 : Nat) : Int) := xor_small (a := a) (b := 113) (by omega) (by omega)
            have Hrr := Lib.hid (show regS (7 * k + (j + 1)) = a ^^^ 113 by rw [Hrn.out, regStep, if_pos h2, ha])
            have Hbb := Lib.hid (show bitsT k (j + 1) = bitsT k j by rw [Hbn.out, if_neg (by omega)])
            generalize a ^^^ 113 = x at *
            clear hp hp2 hpn hm ha Hrn Hbn
            go_wp2
            go_roundw
            case rel => exact ⟨j + 1, by omega, by rw [Hrr.out], by rw [Hbb.out], by rw [Hp2.out]; go_num, by go_num, trivial⟩
            case measure => simp [intOf]; omega
          · have Hrr := Lib.hid (show regS (7 * k + (j + 1)) = 2 * r by rw [Hrn.out, regStep, if_neg h2])
            have Hbb := Lib.hid (show bitsT k (j + 1) = bitsT k j by rw [Hbn.out, if_neg (by omega)])
            clear hp hp2 hpn hm Hrn Hbn
            go_wp2
            go_roundw
            case rel => exact ⟨j + 1, by omega, by rw [Hrr.out]; go_num, by rw [Hbb.out], by rw [Hp2.out]; go_num, by go_num, trivial⟩
            case measure => simp [intOf]; omega
        · have hj7 : j = 7 := by omega
          have Hr7 := Lib.hid (show regS (7 * (k + 1)) = r by have h := Hr0.out; rw [hj7] at h; exact h.symm)
          have Hl7 := Lib.hid (show bitsT k j = rcS k by rw [hj7]; exact bits_rc k hlt)
          have hn7 : ¬ (j : Int) < 7 := by omega
          have Hl := Lib.hid (show Value.int .i64 (iv (bitsT k j)) = Value.int .i64 (iv (rcS k)) by rw [Hl7.out])
          generalize iv (bitsT k j) = lv at *
          clear hlt2 hj hj7 Hrn Hbn
          go_wp2_with (at_builtin; refine wpl_app _ rfl _ _ _ rfl w.heap.size 3 i0 (.int .i64 0) 1 8 Tryd.underlying119 hi0 hz0 hz1 hz2 rfl (by decide) _ k _ rfl (Hown.out.alloc _) (some ⟨wr.heap.size, 0, none⟩) 1 1 [.int .i64 lv] rfl rfl (one_src _ _ _) (by simp [Value.oneCell']) (by unfold maxLen; omega) (by omega) (by have := Hbel.out.size; simp; omega) ?_; intro v1 w1 hown1 hg1 hat1)
          have Hown1 := Lib.hid (show w1.ownsRow w.heap.size 3 1 v1 (k + 1) (zc (numsS (k + 1))) by
            rw [nums_next, zc, List.map_append]
            have e : [Value.int .i64 lv] = [rcS k].map fun x => Value.int .i64 (iv x) := by rw [Hl.out]; rfl
            rw [← e]
            exact hown1)
          have Hb1 := Lib.hid (show Below w.heap.size w w1 from (Hbel.out.alloc (Hbel.out.size) _).trans (own_below (Hown.out.alloc _) hg1 (by have := Hbel.out.size; simp; omega)))
          clear hown1 hg1 hat1
          go_roundw
          case rel => exact ⟨k + 1, by omega, Hown1.out, by rw [Hr7.out], by go_num, Hb1.out⟩
          case measure => simp [intOf]; omega
    · have Hown1 := Lib.hid (show wr.ownsRow w.heap.size 3 1 (u1) 24 (zc (numsS 24)) by have h := Hown.out; rwa [show k = 24 by omega] at h)
      obtain ⟨g, cap, rfl, hgb, hgl, _⟩ := own_some Hown1.out (by omega)
      have hn24 : ¬ (k : Int) < 24 := by omega
      clear hlt hk Hown
      go_wp2
      go_ret
      refine ⟨g, cap, rfl, hgb, hgl, fun i hi => ?_, Hbel.out⟩
      rw [Hown1.out.cellAt i (by omega), zc, List.getElem?_map, List.getElem?_eq_getElem (by rw [nums_len]; exact hi), ← nums_ga (n := 24) hi, ga, List.getD_eq_getElem?_getD, List.getElem?_eq_getElem (by rw [nums_len]; exact hi)]
      rfl
end Go.Proofs.YteacjkihjeiafaaDoor
namespace Go.Proofs.YteacjkihjeiafaaDoor
open Go.RowKit
set_option linter.unusedVariables false
set_option linter.unusedSimpArgs false

/-- The padded bytes and the numbers lie in their blocks. -/
structure DigAt (w : World) (g cap gn : Nat) (P : List UInt8) (w1 : World) : Prop where
  row : w1.ownsRow w.heap.size 5 1 (.slice (some ⟨g, 0, none⟩) P.length cap) P.length (P.map bv)
  nums : ∀ k, k < 24 → w1.cell? ⟨gn, k, none⟩ = some (.int .i64 (iv (rcS k)))
  below : Below w.heap.size w w1
  lt : g < w1.heap.size
theorem DigAt.next {w : World} {g cap gn : Nat} {P : List UInt8} {w1 w2 : World} (h : DigAt w g cap gn P w1) (hb : Below w1.heap.size w1 w2) : DigAt w g cap gn P w2 :=
  ⟨own_blk h.row (hb.block g h.lt), fun k hk => (hb.cell (World.block_lt_of_cell? w1 _ (h.nums k hk))).trans (h.nums k hk), h.below.trans (hb.mono h.below.size), Nat.lt_of_lt_of_le h.lt hb.size⟩
theorem DigAt.cell {w : World} {g cap gn : Nat} {P : List UInt8} {w2 : World} (h : DigAt w g cap gn P w2) {k : Nat} (hk : k < P.length) : w2.cell? ⟨g, k, none⟩ = some (.int .u8 ((byteAt P k : Nat) : Int)) := by
  rw [h.row.cellAt k (by omega), List.getElem?_map, List.getElem?_eq_getElem hk, byteAt, List.getD_eq_getElem?_getD, List.getElem?_eq_getElem hk]
  rfl
theorem add_last (b : List UInt8) (n : Nat) : IntKind.u8.wrap ((((padT b n).getD ((padT b n).length - 1) 0).toNat : Int) + 128) = (((padT b n).getD ((padT b n).length - 1) 0 + 128).toNat : Int) := by
  rw [pad_last]
  split <;> rfl
set_option maxRecDepth 100000 in
set_option maxHeartbeats 4000000 in
theorem digested_cap (w : World) (A : Option Addr) (b : List UInt8) (c : Nat) (ha : Bs All w A b) (hn : b.length ≤ 1000000) :
    Calls Tryd.prog 56 #[.slice A b.length c] w (RetSLc 1 ByteR w (digS b)) := by
  obtain ⟨i0, hi0, hz0, hz1, hz2⟩ := info_parts info_u8
  have Ha := Lib.hid ha
  clear ha
  go_enter Tryd.func56, Tryd.ntmps56
  go_wp2
  go_loopw [3, 4] (fun v i wr => ∃ k : Nat, k ≤ b.length ∧ i = .int .i64 k ∧ wr.ownsRow w.heap.size 5 1 v k ((b.take k).map bv) ∧ Below w.heap.size w wr) (fun _ i _ => b.length - (intOf i).toNat)
  case atStart => exact ⟨0, by omega, rfl, World.ownsRow_nil _ _ _ _, Below.refl _ _⟩
  case round =>
    obtain ⟨k, hk, rfl, hown, hbel⟩ := hrel
    have Hbel := Lib.hid hbel
    have Hown := Lib.hid hown
    clear hown hbel
    by_cases hlt : k < b.length
    · obtain ⟨ab, ao, rfl, _, hal, hcell⟩ := (Ha.out.bbelow Hbel.out).bat hlt
      have Hsn := Lib.hid (take_snoc b k hlt)
      have hki : (k : Int) < (b.length : Int) := by omega
      generalize b[k] = x at *
      go_wp2_with (at_builtin; refine wpl_app _ rfl _ _ _ rfl w.heap.size 5 i0 (.int .u8 0) 1 1 Tryd.underlying22 hi0 hz0 hz1 hz2 rfl (by decide) _ k _ rfl (Hown.out.alloc _) (some ⟨wr.heap.size, 0, none⟩) 1 1 [bv x] rfl rfl (one_src _ _ _) (by simp [bv, Value.oneCell']) (by unfold maxLen; omega) (by omega) (by have := Hbel.out.size; simp; omega) ?_; intro v1 w1 hown1 hg1 hat1)
      go_roundw
      case rel => exact ⟨k + 1, by omega, by go_num, by rw [Hsn.out]; simpa using hown1, (Hbel.out.alloc (Hbel.out.size) _).trans (own_below (Hown.out.alloc _) hg1 (by have := Hbel.out.size; simp; omega))⟩
      case measure => simp [intOf]; omega
    · have Hown1 := Lib.hid (show wr.ownsRow w.heap.size 5 1 (u3) b.length (b.map bv) by have h := Hown.out; rwa [show k = b.length by omega, List.take_length] at h)
      have hkn : ¬ (k : Int) < (b.length : Int) := by omega
      clear Hown hlt hk
      go_wp2_with (at_builtin; refine wpl_app _ rfl _ _ _ rfl w.heap.size 5 i0 (.int .u8 0) 1 1 Tryd.underlying22 hi0 hz0 hz1 hz2 rfl (by decide) _ b.length _ rfl (Hown1.out.alloc _) (some ⟨wr.heap.size, 0, none⟩) 1 1 [bv 6] rfl rfl (one_src _ _ _) (by simp [bv, Value.oneCell']) (by unfold maxLen; omega) (by omega) (by have := Hbel.out.size; simp; omega) ?_; intro v2 w2 hown2 hg2 hat2)
      have Hp0 := Lib.hid (show w2.ownsRow w.heap.size 5 1 v2 (b.length + 1 + 0) ((padT b 0).map bv) by simpa [padT] using hown2)
      have Hb0 := Lib.hid (show Below w.heap.size w w2 from (Hbel.out.alloc Hbel.out.size _).trans (own_below (Hown1.out.alloc _) hg2 (by have := Hbel.out.size; simp; omega)))
      clear hown2 hg2 hat2 Hown1 Hbel hkn
      go_loopw [3] (fun v wr => ∃ k : Nat, k ≤ 135 - b.length % 136 ∧ wr.ownsRow w.heap.size 5 1 v (b.length + 1 + k) ((padT b k).map bv) ∧ Below w.heap.size w wr) (fun v _ => b.length + 137 - lenOf v)
      case atStart => exact ⟨0, by omega, Hp0.out, Hb0.out⟩
      case round =>
        clear Hp0 Hb0
        obtain ⟨k, hk, hown, hbel⟩ := hrel
        obtain ⟨g, cap, rfl, hgb, hgl, hqc⟩ := own_some hown (by omega)
        have Hown := Lib.hid hown
        have Hbel := Lib.hid hbel
        have hlen := padT_len b k
        have Hpl := Lib.hid hlen
        clear hown hbel hlen
        obtain ⟨q, hq⟩ : ∃ q, q = b.length + 1 + k := ⟨_, rfl⟩
        rw [← hq] at Hown hqc ⊢
        have Hq := Lib.hid hq
        have hqb : q ≤ 1000137 := by omega
        have hq0 : 0 < q := by omega
        by_cases hm : q % 136 = 0
        rotate_left
        · have hk1 : k + 1 ≤ 135 - b.length % 136 := by omega
          have hmz : b.length + 137 - (q + 1) < b.length + 137 - q := by omega
          obtain ⟨m, hmq⟩ : ∃ m, m = q % 136 := ⟨_, rfl⟩
          have m1 : (q : Int).tmod 136 = (m : Int) := by rw [Int.tmod_eq_emod_of_nonneg (by omega)]; omega
          have m2 : ¬ m = 0 := by omega
          have m3 : ((m : Int) == 0) = false := by simp; omega
          have m4 : ((m : Int) != 0) = true := by simp; omega
          clear hm hmq hq
          go_wp2_with (at_builtin; refine wpl_app _ rfl _ _ _ rfl w.heap.size 5 i0 (.int .u8 0) 1 1 Tryd.underlying22 hi0 hz0 hz1 hz2 rfl (by decide) _ q _ rfl (Hown.out.alloc _) (some ⟨wr.heap.size, 0, none⟩) 1 1 [bv 0] rfl rfl (one_src _ _ _) (by simp [bv, Value.oneCell']) (by unfold maxLen; omega) (by omega) (by have := Hbel.out.size; simp; omega) ?_; intro v1 w1 hown1 hg1 hat1)
          obtain ⟨g1, cap1, rfl, _, _, _⟩ := own_some hown1 (by omega)
          have Hown1 := Lib.hid (show w1.ownsRow w.heap.size 5 1 (.slice (some ⟨g1, 0, none⟩) (q + 1) cap1) (b.length + 1 + (k + 1)) ((padT b (k + 1)).map bv) by
            have e := Hq.out
            rw [← padT_next, List.map_append, show b.length + 1 + (k + 1) = q + 1 by omega]
            exact hown1)
          have Hb1 := Lib.hid (show Below w.heap.size w w1 from (Hbel.out.alloc (Hbel.out.size) _).trans (own_below (Hown.out.alloc _) hg1 (by have := Hbel.out.size; simp; omega)))
          clear hown1 hg1 hat1
          go_roundw
          case rel => exact ⟨k + 1, hk1, Hown1.out, Hb1.out⟩
          case measure => exact hmz
        · have hkq : k = 135 - b.length % 136 := by omega
          obtain ⟨q1, hq1⟩ : ∃ q1, q = q1 + 1 := ⟨q - 1, by omega⟩
          obtain ⟨P, hP⟩ : ∃ P, P = padS b := ⟨_, rfl⟩
          obtain ⟨l0, hl0⟩ : ∃ l0, l0 = (padT b k).getD q1 0 := ⟨_, rfl⟩
          have hlen : (padT b k).length = q := by rw [Hpl.out, hq]
          have hor : IntKind.u8.wrap ((l0.toNat : Int) + 128) = ((l0 + 128).toNat : Int) := by
            have h := add_last b k
            rw [hlen, hq1, Nat.add_sub_cancel, ← hl0] at h
            exact h
          have hPe : P = (padT b k).set q1 (l0 + 128) := by
            rw [hP, pad_eq, ← hkq, hlen, hq1, Nat.add_sub_cancel, hl0]
          have hPl : P.length = q := by rw [hPe, List.length_set, hlen]
          have hg4 := Hown.out.stored q1 (bv (l0 + 128))
          have Hrow := Lib.hid (show (wr.setCell ⟨g, q1, none⟩ (bv (l0 + 128))).ownsRow w.heap.size 5 1 (.slice (some ⟨g, 0, none⟩) P.length cap) P.length (P.map bv) by
            rw [hPl, hPe, List.map_set]
            exact hg4.1)
          have c1 : wr.cell? ⟨g, q1, none⟩ = some (.int .u8 (l0.toNat : Int)) := by
            rw [Hown.out.cellAt q1 (by omega), List.getElem?_map, List.getElem?_eq_getElem (by omega), hl0, List.getD_eq_getElem?_getD, List.getElem?_eq_getElem (by omega)]
            rfl
          have fz := Hown.out.frozenAt q1
          have m1 : (q : Int).tmod 136 = 0 := by rw [Int.tmod_eq_emod_of_nonneg (by omega)]; omega
          have m2 : IntKind.i64.wrap ((q : Int) - 1) = (q1 : Int) := by rw [IntWalk.i64_in _ (by omega)]; omega
          have m3 : (q1 : Int) < (q : Int) := by omega
          obtain ⟨nb, hnb⟩ : ∃ nb, q = 136 * nb := ⟨q / 136, by omega⟩
          have Hnb := Lib.hid hnb
          have HP := Lib.hid hP
          have HPl := Lib.hid hPl
          have hmk : ∀ w : World, (Instr.makeSlice 119 (.int .i64 25) (.int .i64 25)).run Tryd.prog w = .ok (.slice (some ⟨w.heap.size, 0, none⟩) 25 25) (w.alloc (.cells (madeCells #[Value.int .i64 0] 25) 3)) := run_make_row' (P := Tryd.prog) 119 3 (.int .i64 0) 8 Tryd.underlying119 info_int rfl .i64 .i64 25 (by omega) (by omega)
          obtain ⟨bl, hbl⟩ : ∃ bl : Int, bl = ((l0 + 128).toNat : Int) := ⟨_, rfl⟩
          have Hbl := Lib.hid (show Value.int .u8 bl = bv (l0 + 128) by rw [hbl]; rfl)
          rw [← hbl] at hor
          clear hbl hnb hP hPl hPe hlen hl0 hkq hq hg4 hm hq1
          have HRa := Lib.hid (show (wr.setCell ⟨g, q1, none⟩ (.int .u8 bl)).ownsRow w.heap.size 5 1 (.slice (some ⟨g, 0, none⟩) P.length cap) P.length (P.map bv) by rw [Hbl.out]; exact Hrow.out)
          have HBa := Lib.hid (show Below w.heap.size w (wr.setCell ⟨g, q1, none⟩ (.int .u8 bl)) from Hbel.out.setCell hgb _)
          have hga : g < (wr.setCell ⟨g, q1, none⟩ (.int .u8 bl)).heap.size := by simp; omega
          go_wp2_with ((go_at_call 94; (with_reducible refine (roundNumbers_ok _).mono ?_); rintro e w1 ⟨gn, cn, rfl, hgn, hgnl, hcn, hbn⟩))
          have HD1 := Lib.hid (show DigAt w g cap gn P w1 from ⟨own_blk HRa.out (hbn.block g hga), hcn, HBa.out.trans (hbn.mono HBa.out.size), Nat.lt_of_lt_of_le hga hbn.size⟩)
          clear HRa HBa hga hbn hcn c1 fz Hrow Hbel Hown hor m1 m2 m3 Hpl Hbl hgl hgn
          have HL0 := Lib.hid (show LnB (w1.alloc (.cells (madeCells #[Value.int .i64 0] 25) 3)) w1.heap.size (spS P 0) by rw [LnB]; have h := made_lanes 25; rw [h]; exact box_new w1 _ _)
          have HB0 := Lib.hid (show Below w1.heap.size w1 (w1.alloc (.cells (madeCells #[Value.int .i64 0] 25) 3)) from (Below.refl _ _).alloc (Nat.le_refl _) _)
          go_loopw [6, 7, 8, 9, 10, 11] (fun s f _ _ _ _ w2 => ∃ j gs : Nat, j ≤ nb ∧ s = .slice (some ⟨gs, 0, none⟩) 25 25 ∧ f = .int .i64 ((136 * j : Nat) : Int) ∧ LnB w2 gs (spS P j) ∧ w1.heap.size ≤ gs ∧ Below w1.heap.size w1 w2) (fun _ f _ _ _ _ _ => q - (intOf f).toNat)
          case atStart => exact ⟨0, w1.heap.size, by omega, rfl, rfl, HL0.out, Nat.le_refl _, HB0.out⟩
          case round =>
            clear HL0 HB0
            obtain ⟨j, gs, hj, rfl, rfl, hS, hgs, hB⟩ := hrel
            have HS := Lib.hid hS
            have HB := Lib.hid hB
            have hgsl : gs < wr.heap.size := (Array.getElem?_eq_some_iff.1 hS).1
            clear hS hB
            obtain ⟨o, ho⟩ : ∃ o, o = 136 * j := ⟨_, rfl⟩
            rw [← ho]
            have Ho := Lib.hid ho
            by_cases hlt : j < nb
            · have hoq : o + 136 ≤ q := by have := Hnb.out; omega
              have hol : (o : Int) < (q : Int) := by omega
              obtain ⟨D, hD⟩ : ∃ D, D = P.drop o := ⟨_, rfl⟩
              have HD := Lib.hid hD
              have HA0 := Lib.hid (show LnB wr gs (absorbL (spS P j) D 0) by rw [absorbL_zero (sp_len P j)]; exact HS.out)
              clear hD ho
              go_wp2
              go_loopw [8, 9, 10] (fun i _ _ w3 => ∃ x : Nat, x ≤ 17 ∧ i = .int .i64 x ∧ LnB w3 gs (absorbL (spS P j) D x) ∧ Below w1.heap.size w1 w3) (fun i _ _ _ => 17 - (intOf i).toNat)
              case atStart => exact ⟨0, by omega, rfl, HA0.out, HB.out⟩
              case round =>
                clear HA0 HS HB hgsl
                obtain ⟨x, hx, rfl, hA, hB⟩ := hrel
                have HA := Lib.hid hA
                have HB := Lib.hid hB
                clear hA hB
                by_cases hlt2 : x < 17
                · have x17 : (x : Int) < 17 := by omega
                  have Hz := Lib.hid (show (0 : Int) = iv (BitVec.ofNat 64 (highS D x 8)) by rw [high_eight]; rfl)
                  go_wp2
                  obtain ⟨wm, rfl⟩ : ∃ wm : World, wm = wr := ⟨_, rfl⟩
                  go_loopw [9, 10] (fun l k wr => ∃ m : Nat, m ≤ 8 ∧ k = .int .i64 ((m : Int) - 1) ∧ l = .int .i64 (iv (BitVec.ofNat 64 (highS D x m))) ∧ wr = wm) (fun _ k _ => (intOf k + 1).toNat)
                  case atStart => exact ⟨8, by omega, rfl, by rw [← Hz.out], rfl⟩
                  case round =>
                    obtain ⟨m, hm, rfl, rfl, rfl⟩ := hrel
                    rcases m with _ | m
                    rotate_left
                    · have ek : (((m + 1 : Nat) : Int) - 1) = (m : Int) := by omega
                      rw [ek]
                      obtain ⟨bt, hbt⟩ : ∃ bt, bt = byteAt P (o + 8 * x + m) := ⟨_, rfl⟩
                      have hbl : bt < 256 := by rw [hbt]; exact byte_lt _ _
                      have hbd : byteAt D (8 * x + m) = bt := by rw [HD.out, hbt, byteAt, byteAt, List.getD_eq_getElem?_getD, List.getD_eq_getElem?_getD, List.getElem?_drop, Nat.add_assoc]
                      have Hl := Lib.hid (show IntKind.i64.wrap (IntKind.i64.wrap (iv (BitVec.ofNat 64 (highS D x (m + 1))) * 256) + (bt : Int)) = iv (BitVec.ofNat 64 (highS D x m)) by rw [lane_shift, ← hbd, ← high_next D x (by omega)])
                      generalize iv (BitVec.ofNat 64 (highS D x (m + 1))) = lv at *
                      have c1 := (HD1.out.next HB.out).cell (k := o + 8 * x + m) (by rw [HPl.out]; omega)
                      rw [← hbt] at c1
                      have m1 : IntKind.i64.wrap (8 * (x : Int)) = 8 * (x : Int) := IntWalk.i64_in _ (by omega)
                      have m2 : IntKind.i64.wrap ((o : Int) + 8 * (x : Int)) = (o : Int) + 8 * (x : Int) := IntWalk.i64_in _ (by omega)
                      have m3 : IntKind.i64.wrap ((o : Int) + 8 * (x : Int) + (m : Int)) = (o : Int) + 8 * (x : Int) + (m : Int) := IntWalk.i64_in _ (by omega)
                      have m4 : (0 : Int) ≤ (o : Int) + 8 * (x : Int) + (m : Int) := by omega
                      have m5 : (o : Int) + 8 * (x : Int) + (m : Int) < (q : Int) := by omega
                      have m6 : ((o : Int) + 8 * (x : Int) + (m : Int)).toNat = o + 8 * x + m := by omega
                      have m7 : IntKind.i64.wrap (bt : Int) = (bt : Int) := IntWalk.i64_in _ (by omega)
                      have m8 : IntKind.i64.wrap ((m : Int) - 1) = (m : Int) - 1 := IntWalk.i64_in _ (by omega)
                      have m9 : (0 : Int) ≤ (m : Int) := by omega
                      clear hbt hbd ek
                      go_wp2
                      go_roundw
                      case rel => exact ⟨m, by omega, rfl, by rw [← Hl.out, IntWalk.i64_left, IntWalk.i64_left], trivial⟩
                      case measure => first | (simp [intOf]; done) | (simp [intOf]; omega)
                    · have Hx := Lib.hid (show bits .xor .i64 (iv (ga (absorbL (spS P j) D x) x)) (iv (BitVec.ofNat 64 (highS D x 0))) = iv (ga (absorbL (spS P j) D x) x ^^^ laneS D x 8) by rw [high_lane, iv_xor])
                      have e0 : (((0 : Nat) : Int) - 1) = -1 := rfl
                      rw [e0]
                      generalize iv (BitVec.ofNat 64 (highS D x 0)) = lv at *
                      have c1 := lc_cell HA.out (k := x) (by rw [absorbL, upto_len]; omega)
                      have fz := lc_free HA.out x
                      have x25 : (x : Int) < 25 := by omega
                      have m1 : IntKind.i64.wrap ((x : Int) + 1) = (x : Int) + 1 := IntWalk.i64_in _ (by omega)
                      go_wp2
                      go_roundw
                      case rel =>
                        refine ⟨x + 1, by omega, by go_num, ?_, HB.out.setCell hgs _⟩
                        have h := LnB.set HA.out x (ga (absorbL (spS P j) D x) x ^^^ laneS D x 8)
                        rw [← Hx.out] at h
                        rw [← absorbL_next (spS P j) D (by omega)]
                        exact h
                      case measure => simp [intOf]; omega
                · have HAe := Lib.hid (show LnB wr gs (stirsS (absorbS (spS P j) D) 0) by have h := HA.out; rw [show x = 17 by omega, absorbL_all] at h; exact h)
                  have hn17 : ¬ (x : Int) < 17 := by omega
                  clear hlt2 hx HA
                  go_wp2
                  go_loopw [6, 11] (fun s i w3 => ∃ r gt : Nat, r ≤ 24 ∧ s = .slice (some ⟨gt, 0, none⟩) 25 25 ∧ i = .int .i64 r ∧ LnB w3 gt (stirsS (absorbS (spS P j) D) r) ∧ w1.heap.size ≤ gt ∧ Below w1.heap.size w1 w3) (fun _ i _ => 24 - (intOf i).toNat)
                  case atStart => exact ⟨0, gs, by omega, rfl, rfl, HAe.out, hgs, HB.out⟩
                  case round =>
                    clear HAe HB hn17
                    obtain ⟨r, gt, hr, rfl, rfl, hL, hgt, hB⟩ := hrel
                    have HL := Lib.hid hL
                    have HB := Lib.hid hB
                    clear hL hB
                    by_cases hlt3 : r < 24
                    · have r24 : (r : Int) < 24 := by omega
                      obtain ⟨T, hT⟩ : ∃ T, T = stirsS (absorbS (spS P j) D) r := ⟨_, rfl⟩
                      have Hnx := Lib.hid (show stirsS (absorbS (spS P j) D) (r + 1) = stirS T r by rw [stirs_next, hT])
                      have hTl : T.length = 25 := by rw [hT]; exact stirs_len (by rw [absorbS, tab_len]) r
                      rw [← hT] at HL
                      clear hT
                      have hp := parities_ok wr gt T HL.out hTl
                      go_wp2_with (first
                        | (go_at_call 95; (with_reducible refine hp.mono ?_); rintro e w4 ⟨g4, rfl, h4, hl4, hb4⟩; have hp2 := moved_ok w4 g4 _ hl4 (tab_len _ _))
                        | (go_at_call 96; (with_reducible refine hp2.mono ?_); rintro e w5 ⟨g5, rfl, h5, hl5, hb5⟩; have hp3 := rows_ok w5 g5 _ hl5 (tab_len _ _))
                        | (go_at_call 97; (with_reducible refine hp3.mono ?_); rintro e w6 ⟨g6, rfl, h6, hl6, hb6⟩))
                      have hz4 := hb4.size
                      have hz5 := hb5.size
                      have hz0 := HB.out.size
                      have Hb6 := Lib.hid (show Below w1.heap.size w1 w6 from ((HB.out.trans (hb4.mono hz0)).trans (hb5.mono (by omega))).trans (hb6.mono (by omega)))
                      have Hd := Lib.hid (show LnB w6.drew g6 (mixS T) ∧ Below w1.heap.size w1 w6.drew ∧ DigAt w g cap gn P w6.drew from ⟨hl6, Hb6.out.drew, HD1.out.next Hb6.out.drew⟩)
                      have hg6 : w1.heap.size ≤ g6 := by omega
                      have Hx := Lib.hid (iv_xor (ga (mixS T) 0) (rcS r))
                      clear hp hp2 hp3 hl4 hl5 hl6 hb4 hb5 hb6 h4 h5 h6 hz4 hz5 hz0
                      refine wp_region_still_tail 10 (by kernel_rfl) (by kernel_rfl) ?_
                      change wpStill _ _ w6.drew (fun a' => wpList _ _ _ _ a' w6.drew) _ _
                      generalize w6.drew = wd at Hd ⊢
                      have c0 := lc_cell Hd.out.1 (k := 0) (by rw [mix_len]; omega)
                      have c1 := Hd.out.2.2.nums r hlt3
                      have fz := lc_free Hd.out.1 0
                      (simp only [List.take_succ_cons, List.take_zero, List.drop_succ_cons, List.drop_zero]; (repeat (refine wpStill_step (fun K hK => ?_); go_simp; refine hK _ ?_; clear hK K)); try refine wpStill_nil ?_)
                      go_wp2
                      go_roundw
                      case rel =>
                        refine ⟨r + 1, g6, by omega, rfl, by go_num, ?_, hg6, Hd.out.2.1.setCell hg6 _⟩
                        have h := LnB.set Hd.out.1 0 (ga (mixS T) 0 ^^^ rcS r)
                        rw [← Hx.out] at h
                        rw [Hnx.out, stirS, iotaS]
                        exact h
                      case measure => simp [intOf]; omega
                    · have HSn := Lib.hid (show LnB wr gt (spS P (j + 1)) by have h := HL.out; rw [show r = 24 by omega, HD.out, Ho.out] at h; exact h)
                      have hn24 : ¬ (r : Int) < 24 := by omega
                      have m1 : IntKind.i64.wrap ((o : Int) + 136) = ((136 * (j + 1) : Nat) : Int) := by rw [IntWalk.i64_in _ (by omega)]; have := Ho.out; omega
                      have hms : q - (136 * ((j : Int) + 1)).toNat < q - o := by have := Ho.out; omega
                      clear hlt3 hr HL
                      go_wp2
                      go_roundw
                      case rel => exact ⟨j + 1, gt, by omega, rfl, by go_num, HSn.out, hgt, HB.out⟩
                      case measure => simpa [intOf] using hms
            · obtain ⟨st, hst⟩ : ∃ st, st = spS P nb := ⟨_, rfl⟩
              have HSe := Lib.hid (show LnB wr gs st by have h := HS.out; rwa [show j = nb by omega, ← hst] at h)
              have HDe := Lib.hid (show outS32 st 32 = digS b by rw [hst, HP.out, digS]; congr 2; have h1 := Hnb.out; have h2 := HPl.out; rw [HP.out] at h2; omega)
              have hstl : st.length = 25 := by rw [hst]; exact sp_len P nb
              have hoq : ¬ (o : Int) < (q : Int) := by have := Hnb.out; omega
              have HBw := Lib.hid (show Below w.heap.size w wr from (HD1.out.next HB.out).below)
              clear hst HS hlt hj ho
              go_wp2
              obtain ⟨wm, hwm⟩ : ∃ wm : World, wm = wr := ⟨_, rfl⟩
              rw [← hwm] at HSe HBw hgsl
              go_loopw [12, 13, 14, 15, 16] (fun v i _ _ _ w2 => ∃ x : Nat, x ≤ 4 ∧ w2.ownsRow wm.heap.size 5 1 v (8 * x) ((outS32 st (8 * x)).map bv) ∧ i = .int .i64 x ∧ Below wm.heap.size wm w2) (fun _ i _ _ _ _ => 4 - (intOf i).toNat)
              case atStart => exact ⟨0, by omega, World.ownsRow_nil _ _ _ _, rfl, by rw [hwm]; exact Below.refl _ _⟩
              case round =>
                clear hwm HB
                obtain ⟨x, hx, hown, rfl, hB⟩ := hrel
                have Hown := Lib.hid hown
                have HB := Lib.hid hB
                clear hown hB
                by_cases hlt2 : x < 4
                · have x4 : (x : Int) < 4 := by omega
                  have x25 : (x : Int) < 25 := by omega
                  have c0 : wr.cell? ⟨gs, x, none⟩ = some (.int .i64 (iv (ga st x))) := lc_cell (show LnB wr gs st from (HB.out.block gs hgsl).trans HSe.out) (by omega)
                  have Hl0 := Lib.hid (show iv (ga st x) = iv (ga st x) / 256 ^ 0 by simp)
                  go_wp2
                  go_loopw [12, 14, 15, 16] (fun v l k _ w3 => ∃ m : Nat, m ≤ 8 ∧ w3.ownsRow wm.heap.size 5 1 v (8 * x + m) ((outS32 st (8 * x + m)).map bv) ∧ l = .int .i64 (iv (ga st x) / 256 ^ m) ∧ k = .int .i64 m ∧ Below wm.heap.size wm w3) (fun _ _ k _ _ => 8 - (intOf k).toNat)
                  case atStart => exact ⟨0, by omega, Hown.out, by rw [← Hl0.out], rfl, HB.out⟩
                  case round =>
                    clear Hown HB c0 Hl0
                    obtain ⟨m, hm, hown, rfl, rfl, hB⟩ := hrel
                    obtain ⟨A1, cap1, rfl⟩ := own_slice hown
                    have Hown := Lib.hid hown
                    have HB := Lib.hid hB
                    clear hown hB
                    by_cases hlt3 : m < 8
                    · have m8 : (m : Int) < 8 := by omega
                      have hrg := out_range (ga st x) m
                      obtain ⟨ob, hob⟩ : ∃ ob, ob = UInt8.ofNat ((ga st ((8 * x + m) / 8)).toNat / 2 ^ ((8 * x + m) % 8 * 8) % 256) := ⟨_, rfl⟩
                      have hby := out_byte st (i := x) hlt3
                      rw [← hob] at hby
                      have Hon := Lib.hid (show outS32 st (8 * x + (m + 1)) = outS32 st (8 * x + m) ++ [ob] by rw [hob]; exact out_next st (8 * x + m))
                      have Hdv := Lib.hid (out_pow (iv (ga st x)) m)
                      generalize iv (ga st x) / 256 ^ m = lv at *
                      obtain ⟨lw, hlw⟩ : ∃ lw, lw = lv % 256 := ⟨_, rfl⟩
                      obtain ⟨ln, hln⟩ : ∃ ln, ln = lv / 256 := ⟨_, rfl⟩
                      have t1 : bits .and .i64 lv 255 = lw := by rw [and255, hlw]
                      have t2 : IntKind.u8.wrap lw = (ob.toNat : Int) := by rw [hlw]; exact hby
                      have t3 : IntKind.i64.wrap (lv - lw) = lv - lw := IntWalk.i64_in _ (by omega)
                      have t4 : (lv - lw).tdiv 256 = ln := by rw [hlw, out_div, hln]
                      have t5 : IntKind.i64.wrap ln = ln := IntWalk.i64_in _ (by omega)
                      rw [← hln] at Hdv
                      clear hob hlw hln hby hrg
                      go_wp2_with (at_builtin; refine wpl_app _ rfl _ _ _ rfl wm.heap.size 5 i0 (.int .u8 0) 1 1 Tryd.underlying22 hi0 hz0 hz1 hz2 rfl (by decide) _ (8 * x + m) _ rfl (Hown.out.alloc _) (some ⟨wr.heap.size, 0, none⟩) 1 1 [bv ob] rfl rfl (one_src _ _ _) (by simp [bv, Value.oneCell']) (by unfold maxLen; omega) (by omega) (by have := HB.out.size; simp; omega) ?_; intro v1 w4 hown1 hg1 hat1)
                      go_roundw
                      case rel => exact ⟨m + 1, by omega, by rw [Hon.out]; simpa [Nat.add_assoc] using hown1, by rw [Hdv.out], by go_num, (HB.out.alloc (HB.out.size) _).trans (own_below (Hown.out.alloc _) hg1 (by have := HB.out.size; simp; omega))⟩
                      case measure => simp [intOf]; omega
                    · have Hown1 := Lib.hid (show wr.ownsRow wm.heap.size 5 1 (.slice A1 (8 * x + m) cap1) (8 * (x + 1)) ((outS32 st (8 * (x + 1))).map bv) by have h := Hown.out; rw [show m = 8 by omega] at h ⊢; exact h)
                      have hn8 : ¬ (m : Int) < 8 := by omega
                      have m1 : IntKind.i64.wrap ((x : Int) + 1) = (x : Int) + 1 := IntWalk.i64_in _ (by omega)
                      clear hlt3 hm Hown
                      go_wp2
                      go_roundw
                      case rel => exact ⟨x + 1, by omega, Hown1.out, by go_num, HB.out⟩
                      case measure => simp [intOf]; omega
                · have Hown1 := Lib.hid (show wr.ownsRow w.heap.size 5 1 (u12) 32 ((digS b).map bv) by have h := own_base Hown.out HBw.out.size; rw [show x = 4 by omega] at h; rw [← HDe.out]; exact h)
                  have hn4 : ¬ (x : Int) < 4 := by omega
                  clear hlt2 hx Hown
                  go_wp2
                  go_ret
                  exact ret_bsc Hown1.out (HBw.out.trans (HB.out.mono HBw.out.size))
theorem digested_ok (w : World) (A : Option Addr) (b : List UInt8) (c : Nat) (ha : Bs All w A b) (hn : b.length ≤ 1000000) :
    Calls Tryd.prog 56 #[.slice A b.length c] w (RetBs w (digS b)) :=
  (digested_cap w A b c ha hn).mono fun _ _ h => h.bare
end Go.Proofs.YteacjkihjeiafaaDoor
