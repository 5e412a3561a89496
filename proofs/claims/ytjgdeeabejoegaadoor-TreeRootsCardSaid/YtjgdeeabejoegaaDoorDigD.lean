/- Walk: Digested of the reference. -/
import Derived.Test.YtjgdeeabejoegaaDoorDigR
import Derived.StillTailTactics
namespace Go.Proofs.YtjgdeeabejoegaaDoor
open Go.RowKit
set_option linter.unusedVariables false
set_option linter.unusedSimpArgs false

/-- The padded bytes and the numbers lie in their blocks. -/
structure DigAt (w : World) (g cap gn : Nat) (P : List UInt8) (w1 : World) : Prop where
  row : w1.ownsRow w.heap.size 5 1 (.slice (some ⟨g, 0, none⟩) P.length cap) P.length (P.map bv)
  nums : ∀ k, k < 24 → w1.cell? ⟨gn, k, none⟩ = some (.int .i64 (iv (rcS k)))
  below : Below w.heap.size w w1
  lt : g < w1.heap.size
theorem DigAt.next {w : World} {g cap gn : Nat} {P : List UInt8} {w1 w2 : World} (h : DigAt w g cap gn P w1) (hb : Below w1.heap.size w1 w2) : DigAt w g cap gn P w2 :=
  ⟨own_blk h.row (hb.block g h.lt), fun k hk => (hb.cell (World.block_lt_of_cell? w1 _ (h.nums k hk))).trans (h.nums k hk), h.below.trans (hb.mono h.below.size), Nat.lt_of_lt_of_le h.lt hb.size⟩
theorem DigAt.cell {w : World} {g cap gn : Nat} {P : List UInt8} {w2 : World} (h : DigAt w g cap gn P w2) {k : Nat} (hk : k < P.length) : w2.cell? ⟨g, k, none⟩ = some (.int .u8 ((byteAt P k : Nat) : Int)) := by
  rw [h.row.cellAt k (by omega), List.getElem?_map, List.getElem?_eq_getElem hk, byteAt, List.getD_eq_getElem?_getD, List.getElem?_eq_getElem hk]
  rfl
theorem add_last (b : List UInt8) (n : Nat) : IntKind.u8.wrap ((((padT b n).getD ((padT b n).length - 1) 0).toNat : Int) + 128) = (((padT b n).getD ((padT b n).length - 1) 0 + 128).toNat : Int) := by
  rw [pad_last]
  split <;> rfl
set_option maxRecDepth 100000 in
set_option maxHeartbeats 4000000 in
theorem digested_ok (w : World) (A : Option Addr) (b : List UInt8) (c : Nat) (ha : Bs All w A b) (hn : b.length ≤ 1000000) :
    Calls Tryd.prog 45 #[.slice A b.length c] w (RetBs w (digS b)) := by
  obtain ⟨i0, hi0, hz0, hz1, hz2⟩ := info_parts info_u8
  have Ha := Lib.hid ha
  clear ha
  go_enter Tryd.func45, Tryd.ntmps45
  go_wp2
  go_loopw [3, 4] (fun v i wr => ∃ k : Nat, k ≤ b.length ∧ i = .int .i64 k ∧ wr.ownsRow w.heap.size 5 1 v k ((b.take k).map bv) ∧ Below w.heap.size w wr) (fun _ i _ => b.length - (intOf i).toNat)
  case atStart => exact ⟨0, by omega, rfl, World.ownsRow_nil _ _ _ _, Below.refl _ _⟩
  case round =>
    obtain ⟨k, hk, rfl, hown, hbel⟩ := hrel
    have Hbel := Lib.hid hbel
    have Hown := Lib.hid hown
    clear hown hbel
    by_cases hlt : k < b.length
    · obtain ⟨ab, ao, rfl, _, hal, hcell⟩ := (Ha.out.bbelow Hbel.out).bat hlt
      have Hsn := Lib.hid (take_snoc b k hlt)
      have hki : (k : Int) < (b.length : Int) := by omega
      generalize b[k] = x at *
      go_wp2_with (at_builtin; refine wpl_app _ rfl _ _ _ rfl w.heap.size 5 i0 (.int .u8 0) 1 1 Tryd.underlying22 hi0 hz0 hz1 hz2 rfl (by decide) _ k _ rfl (Hown.out.alloc _) (some ⟨wr.heap.size, 0, none⟩) 1 1 [bv x] rfl rfl (one_src _ _ _) (by simp [bv, Value.oneCell']) (by unfold maxLen; omega) (by omega) (by have := Hbel.out.size; simp; omega) ?_; intro v1 w1 hown1 hg1 hat1)
      go_roundw
      case rel => exact ⟨k + 1, by omega, by go_num, by rw [Hsn.out]; simpa using hown1, (Hbel.out.alloc (Hbel.out.size) _).trans (own_below (Hown.out.alloc _) hg1 (by have := Hbel.out.size; simp; omega))⟩
      case measure => simp [intOf]; omega
    · have Hown1 := Lib.hid (show wr.ownsRow w.heap.size 5 1 (u3) b.length (b.map bv) by have h := Hown.out; rwa [show k = b.length by omega, List.take_length] at h)
      have hkn : ¬ (k : Int) < (b.length : Int) := by omega
      clear Hown hlt hk
      go_wp2_with (at_builtin; refine wpl_app _ rfl _ _ _ rfl w.heap.size 5 i0 (.int .u8 0) 1 1 Tryd.underlying22 hi0 hz0 hz1 hz2 rfl (by decide) _ b.length _ rfl (Hown1.out.alloc _) (some ⟨wr.heap.size, 0, none⟩) 1 1 [bv 6] rfl rfl (one_src _ _ _) (by simp [bv, Value.oneCell']) (by unfold maxLen; omega) (by omega) (by have := Hbel.out.size; simp; omega) ?_; intro v2 w2 hown2 hg2 hat2)
      have Hp0 := Lib.hid (show w2.ownsRow w.heap.size 5 1 v2 (b.length + 1 + 0) ((padT b 0).map bv) by simpa [padT] using hown2)
      have Hb0 := Lib.hid (show Below w.heap.size w w2 from (Hbel.out.alloc Hbel.out.size _).trans (own_below (Hown1.out.alloc _) hg2 (by have := Hbel.out.size; simp; omega)))
      clear hown2 hg2 hat2 Hown1 Hbel hkn
      go_loopw [3] (fun v wr => ∃ k : Nat, k ≤ 135 - b.length % 136 ∧ wr.ownsRow w.heap.size 5 1 v (b.length + 1 + k) ((padT b k).map bv) ∧ Below w.heap.size w wr) (fun v _ => b.length + 137 - lenOf v)
      case atStart => exact ⟨0, by omega, Hp0.out, Hb0.out⟩
      case round =>
        clear Hp0 Hb0
        obtain ⟨k, hk, hown, hbel⟩ := hrel
        obtain ⟨g, cap, rfl, hgb, hgl, hqc⟩ := own_some hown (by omega)
        have Hown := Lib.hid hown
        have Hbel := Lib.hid hbel
        have hlen := padT_len b k
        have Hpl := Lib.hid hlen
        clear hown hbel hlen
        obtain ⟨q, hq⟩ : ∃ q, q = b.length + 1 + k := ⟨_, rfl⟩
        rw [← hq] at Hown hqc ⊢
        have Hq := Lib.hid hq
        have hqb : q ≤ 1000137 := by omega
        have hq0 : 0 < q := by omega
        by_cases hm : q % 136 = 0
        rotate_left
        · have hk1 : k + 1 ≤ 135 - b.length % 136 := by omega
          have hmz : b.length + 137 - (q + 1) < b.length + 137 - q := by omega
          obtain ⟨m, hmq⟩ : ∃ m, m = q % 136 := ⟨_, rfl⟩
          have m1 : (q : Int).tmod 136 = (m : Int) := by rw [Int.tmod_eq_emod_of_nonneg (by omega)]; omega
          have m2 : ¬ m = 0 := by omega
          have m3 : ((m : Int) == 0) = false := by simp; omega
          have m4 : ((m : Int) != 0) = true := by simp; omega
          clear hm hmq hq
          go_wp2_with (at_builtin; refine wpl_app _ rfl _ _ _ rfl w.heap.size 5 i0 (.int .u8 0) 1 1 Tryd.underlying22 hi0 hz0 hz1 hz2 rfl (by decide) _ q _ rfl (Hown.out.alloc _) (some ⟨wr.heap.size, 0, none⟩) 1 1 [bv 0] rfl rfl (one_src _ _ _) (by simp [bv, Value.oneCell']) (by unfold maxLen; omega) (by omega) (by have := Hbel.out.size; simp; omega) ?_; intro v1 w1 hown1 hg1 hat1)
          obtain ⟨g1, cap1, rfl, _, _, _⟩ := own_some hown1 (by omega)
          have Hown1 := Lib.hid (show w1.ownsRow w.heap.size 5 1 (.slice (some ⟨g1, 0, none⟩) (q + 1) cap1) (b.length + 1 + (k + 1)) ((padT b (k + 1)).map bv) by
            have e := Hq.out
            rw [← padT_next, List.map_append, show b.length + 1 + (k + 1) = q + 1 by omega]
            exact hown1)
          have Hb1 := Lib.hid (show Below w.heap.size w w1 from (Hbel.out.alloc (Hbel.out.size) _).trans (own_below (Hown.out.alloc _) hg1 (by have := Hbel.out.size; simp; omega)))
          clear hown1 hg1 hat1
          go_roundw
          case rel => exact ⟨k + 1, hk1, Hown1.out, Hb1.out⟩
          case measure => exact hmz
        · have hkq : k = 135 - b.length % 136 := by omega
          obtain ⟨q1, hq1⟩ : ∃ q1, q = q1 + 1 := ⟨q - 1, by omega⟩
          obtain ⟨P, hP⟩ : ∃ P, P = padS b := ⟨_, rfl⟩
          obtain ⟨l0, hl0⟩ : ∃ l0, l0 = (padT b k).getD q1 0 := ⟨_, rfl⟩
          have hlen : (padT b k).length = q := by rw [Hpl.out, hq]
          have hor : IntKind.u8.wrap ((l0.toNat : Int) + 128) = ((l0 + 128).toNat : Int) := by
            have h := add_last b k
            rw [hlen, hq1, Nat.add_sub_cancel, ← hl0] at h
            exact h
          have hPe : P = (padT b k).set q1 (l0 + 128) := by
            rw [hP, pad_eq, ← hkq, hlen, hq1, Nat.add_sub_cancel, hl0]
          have hPl : P.length = q := by rw [hPe, List.length_set, hlen]
          have hg4 := Hown.out.stored q1 (bv (l0 + 128))
          have Hrow := Lib.hid (show (wr.setCell ⟨g, q1, none⟩ (bv (l0 + 128))).ownsRow w.heap.size 5 1 (.slice (some ⟨g, 0, none⟩) P.length cap) P.length (P.map bv) by
            rw [hPl, hPe, List.map_set]
            exact hg4.1)
          have c1 : wr.cell? ⟨g, q1, none⟩ = some (.int .u8 (l0.toNat : Int)) := by
            rw [Hown.out.cellAt q1 (by omega), List.getElem?_map, List.getElem?_eq_getElem (by omega), hl0, List.getD_eq_getElem?_getD, List.getElem?_eq_getElem (by omega)]
            rfl
          have fz := Hown.out.frozenAt q1
          have m1 : (q : Int).tmod 136 = 0 := by rw [Int.tmod_eq_emod_of_nonneg (by omega)]; omega
          have m2 : IntKind.i64.wrap ((q : Int) - 1) = (q1 : Int) := by rw [IntWalk.i64_in _ (by omega)]; omega
          have m3 : (q1 : Int) < (q : Int) := by omega
          obtain ⟨nb, hnb⟩ : ∃ nb, q = 136 * nb := ⟨q / 136, by omega⟩
          have Hnb := Lib.hid hnb
          have HP := Lib.hid hP
          have HPl := Lib.hid hPl
          have hmk : ∀ w : World, (Instr.makeSlice 125 (.int .i64 25) (.int .i64 25)).run Tryd.prog w = .ok (.slice (some ⟨w.heap.size, 0, none⟩) 25 25) (w.alloc (.cells (madeCells #[Value.int .i64 0] 25) 3)) := run_make_row' (P := Tryd.prog) 125 3 (.int .i64 0) 8 Tryd.underlying125 info_int rfl .i64 .i64 25 (by omega) (by omega)
          obtain ⟨bl, hbl⟩ : ∃ bl : Int, bl = ((l0 + 128).toNat : Int) := ⟨_, rfl⟩
          have Hbl := Lib.hid (show Value.int .u8 bl = bv (l0 + 128) by rw [hbl]; rfl)
          rw [← hbl] at hor
          clear hbl hnb hP hPl hPe hlen hl0 hkq hq hg4 hm hq1
          have HRa := Lib.hid (show (wr.setCell ⟨g, q1, none⟩ (.int .u8 bl)).ownsRow w.heap.size 5 1 (.slice (some ⟨g, 0, none⟩) P.length cap) P.length (P.map bv) by rw [Hbl.out]; exact Hrow.out)
          have HBa := Lib.hid (show Below w.heap.size w (wr.setCell ⟨g, q1, none⟩ (.int .u8 bl)) from Hbel.out.setCell hgb _)
          have hga : g < (wr.setCell ⟨g, q1, none⟩ (.int .u8 bl)).heap.size := by simp; omega
          go_wp2_with ((go_at_call 93; (with_reducible refine (roundNumbers_ok _).mono ?_); rintro e w1 ⟨gn, cn, rfl, hgn, hgnl, hcn, hbn⟩))
          have HD1 := Lib.hid (show DigAt w g cap gn P w1 from ⟨own_blk HRa.out (hbn.block g hga), hcn, HBa.out.trans (hbn.mono HBa.out.size), Nat.lt_of_lt_of_le hga hbn.size⟩)
          clear HRa HBa hga hbn hcn c1 fz Hrow Hbel Hown hor m1 m2 m3 Hpl Hbl hgl hgn
          have HL0 := Lib.hid (show LnB (w1.alloc (.cells (madeCells #[Value.int .i64 0] 25) 3)) w1.heap.size (spS P 0) by rw [LnB]; have h := made_lanes 25; rw [h]; exact box_new w1 _ _)
          have HB0 := Lib.hid (show Below w1.heap.size w1 (w1.alloc (.cells (madeCells #[Value.int .i64 0] 25) 3)) from (Below.refl _ _).alloc (Nat.le_refl _) _)
          go_loopw [6, 7, 8, 9, 10, 11] (fun s f _ _ _ _ w2 => ∃ j gs : Nat, j ≤ nb ∧ s = .slice (some ⟨gs, 0, none⟩) 25 25 ∧ f = .int .i64 ((136 * j : Nat) : Int) ∧ LnB w2 gs (spS P j) ∧ w1.heap.size ≤ gs ∧ Below w1.heap.size w1 w2) (fun _ f _ _ _ _ _ => q - (intOf f).toNat)
          case atStart => exact ⟨0, w1.heap.size, by omega, rfl, rfl, HL0.out, Nat.le_refl _, HB0.out⟩
          case round =>
            clear HL0 HB0
            obtain ⟨j, gs, hj, rfl, rfl, hS, hgs, hB⟩ := hrel
            have HS := Lib.hid hS
            have HB := Lib.hid hB
            have hgsl : gs < wr.heap.size := (Array.getElem?_eq_some_iff.1 hS).1
            clear hS hB
            obtain ⟨o, ho⟩ : ∃ o, o = 136 * j := ⟨_, rfl⟩
            rw [← ho]
            have Ho := Lib.hid ho
            by_cases hlt : j < nb
            · have hoq : o + 136 ≤ q := by have := Hnb.out; omega
              have hol : (o : Int) < (q : Int) := by omega
              obtain ⟨D, hD⟩ : ∃ D, D = P.drop o := ⟨_, rfl⟩
              have HD := Lib.hid hD
              have HA0 := Lib.hid (show LnB wr gs (absorbL (spS P j) D 0) by rw [absorbL_zero (sp_len P j)]; exact HS.out)
              clear hD ho
              go_wp2
              go_loopw [8, 9, 10] (fun i _ _ w3 => ∃ x : Nat, x ≤ 17 ∧ i = .int .i64 x ∧ LnB w3 gs (absorbL (spS P j) D x) ∧ Below w1.heap.size w1 w3) (fun i _ _ _ => 17 - (intOf i).toNat)
              case atStart => exact ⟨0, by omega, rfl, HA0.out, HB.out⟩
              case round =>
                clear HA0 HS HB hgsl
                obtain ⟨x, hx, rfl, hA, hB⟩ := hrel
                have HA := Lib.hid hA
                have HB := Lib.hid hB
                clear hA hB
                by_cases hlt2 : x < 17
                · have x17 : (x : Int) < 17 := by omega
                  have Hz := Lib.hid (show (0 : Int) = iv (BitVec.ofNat 64 (highS D x 8)) by rw [high_eight]; rfl)
                  go_wp2
                  obtain ⟨wm, rfl⟩ : ∃ wm : World, wm = wr := ⟨_, rfl⟩
                  go_loopw [9, 10] (fun l k wr => ∃ m : Nat, m ≤ 8 ∧ k = .int .i64 ((m : Int) - 1) ∧ l = .int .i64 (iv (BitVec.ofNat 64 (highS D x m))) ∧ wr = wm) (fun _ k _ => (intOf k + 1).toNat)
                  case atStart => exact ⟨8, by omega, rfl, by rw [← Hz.out], rfl⟩
                  case round =>
                    obtain ⟨m, hm, rfl, rfl, rfl⟩ := hrel
                    rcases m with _ | m
                    rotate_left
                    · have ek : (((m + 1 : Nat) : Int) - 1) = (m : Int) := by omega
                      rw [ek]
                      obtain ⟨bt, hbt⟩ : ∃ bt, bt = byteAt P (o + 8 * x + m) := ⟨_, rfl⟩
                      have hbl : bt < 256 := by rw [hbt]; exact byte_lt _ _
                      have hbd : byteAt D (8 * x + m) = bt := by rw [HD.out, hbt, byteAt, byteAt, List.getD_eq_getElem?_getD, List.getD_eq_getElem?_getD, List.getElem?_drop, Nat.add_assoc]
                      have Hl := Lib.hid (show IntKind.i64.wrap (IntKind.i64.wrap (iv (BitVec.ofNat 64 (highS D x (m + 1))) * 256) + (bt : Int)) = iv (BitVec.ofNat 64 (highS D x m)) by rw [lane_shift, ← hbd, ← high_next D x (by omega)])
                      generalize iv (BitVec.ofNat 64 (highS D x (m + 1))) = lv at *
                      have c1 := (HD1.out.next HB.out).cell (k := o + 8 * x + m) (by rw [HPl.out]; omega)
                      rw [← hbt] at c1
                      have m1 : IntKind.i64.wrap (8 * (x : Int)) = 8 * (x : Int) := IntWalk.i64_in _ (by omega)
                      have m2 : IntKind.i64.wrap ((o : Int) + 8 * (x : Int)) = (o : Int) + 8 * (x : Int) := IntWalk.i64_in _ (by omega)
                      have m3 : IntKind.i64.wrap ((o : Int) + 8 * (x : Int) + (m : Int)) = (o : Int) + 8 * (x : Int) + (m : Int) := IntWalk.i64_in _ (by omega)
                      have m4 : (0 : Int) ≤ (o : Int) + 8 * (x : Int) + (m : Int) := by omega
                      have m5 : (o : Int) + 8 * (x : Int) + (m : Int) < (q : Int) := by omega
                      have m6 : ((o : Int) + 8 * (x : Int) + (m : Int)).toNat = o + 8 * x + m := by omega
                      have m7 : IntKind.i64.wrap (bt : Int) = (bt : Int) := IntWalk.i64_in _ (by omega)
                      have m8 : IntKind.i64.wrap ((m : Int) - 1) = (m : Int) - 1 := IntWalk.i64_in _ (by omega)
                      have m9 : (0 : Int) ≤ (m : Int) := by omega
                      clear hbt hbd ek
                      go_wp2
                      go_roundw
                      case rel => exact ⟨m, by omega, rfl, by rw [← Hl.out, IntWalk.i64_left, IntWalk.i64_left], trivial⟩
                      case measure => first | (simp [intOf]; done) | (simp [intOf]; omega)
                    · have Hx := Lib.hid (show bits .xor .i64 (iv (ga (absorbL (spS P j) D x) x)) (iv (BitVec.ofNat 64 (highS D x 0))) = iv (ga (absorbL (spS P j) D x) x ^^^ laneS D x 8) by rw [high_lane, iv_xor])
                      have e0 : (((0 : Nat) : Int) - 1) = -1 := rfl
                      rw [e0]
                      generalize iv (BitVec.ofNat 64 (highS D x 0)) = lv at *
                      have c1 := lc_cell HA.out (k := x) (by rw [absorbL, upto_len]; omega)
                      have fz := lc_free HA.out x
                      have x25 : (x : Int) < 25 := by omega
                      have m1 : IntKind.i64.wrap ((x : Int) + 1) = (x : Int) + 1 := IntWalk.i64_in _ (by omega)
                      go_wp2
                      go_roundw
                      case rel =>
                        refine ⟨x + 1, by omega, by go_num, ?_, HB.out.setCell hgs _⟩
                        have h := LnB.set HA.out x (ga (absorbL (spS P j) D x) x ^^^ laneS D x 8)
                        rw [← Hx.out] at h
                        rw [← absorbL_next (spS P j) D (by omega)]
                        exact h
                      case measure => simp [intOf]; omega
                · have HAe := Lib.hid (show LnB wr gs (stirsS (absorbS (spS P j) D) 0) by have h := HA.out; rw [show x = 17 by omega, absorbL_all] at h; exact h)
                  have hn17 : ¬ (x : Int) < 17 := by omega
                  clear hlt2 hx HA
                  go_wp2
                  go_loopw [6, 11] (fun s i w3 => ∃ r gt : Nat, r ≤ 24 ∧ s = .slice (some ⟨gt, 0, none⟩) 25 25 ∧ i = .int .i64 r ∧ LnB w3 gt (stirsS (absorbS (spS P j) D) r) ∧ w1.heap.size ≤ gt ∧ Below w1.heap.size w1 w3) (fun _ i _ => 24 - (intOf i).toNat)
                  case atStart => exact ⟨0, gs, by omega, rfl, rfl, HAe.out, hgs, HB.out⟩
                  case round =>
                    clear HAe HB hn17
                    obtain ⟨r, gt, hr, rfl, rfl, hL, hgt, hB⟩ := hrel
                    have HL := Lib.hid hL
                    have HB := Lib.hid hB
                    clear hL hB
                    by_cases hlt3 : r < 24
                    · have r24 : (r : Int) < 24 := by omega
                      obtain ⟨T, hT⟩ : ∃ T, T = stirsS (absorbS (spS P j) D) r := ⟨_, rfl⟩
                      have Hnx := Lib.hid (show stirsS (absorbS (spS P j) D) (r + 1) = stirS T r by rw [stirs_next, hT])
                      have hTl : T.length = 25 := by rw [hT]; exact stirs_len (by rw [absorbS, tab_len]) r
                      rw [← hT] at HL
                      clear hT
                      have hp := parities_ok wr gt T HL.out hTl
                      go_wp2_with (first
                        | (go_at_call 94; (with_reducible refine hp.mono ?_); rintro e w4 ⟨g4, rfl, h4, hl4, hb4⟩; have hp2 := moved_ok w4 g4 _ hl4 (tab_len _ _))
                        | (go_at_call 95; (with_reducible refine hp2.mono ?_); rintro e w5 ⟨g5, rfl, h5, hl5, hb5⟩; have hp3 := rows_ok w5 g5 _ hl5 (tab_len _ _))
                        | (go_at_call 96; (with_reducible refine hp3.mono ?_); rintro e w6 ⟨g6, rfl, h6, hl6, hb6⟩))
                      have hz4 := hb4.size
                      have hz5 := hb5.size
                      have hz0 := HB.out.size
                      have Hb6 := Lib.hid (show Below w1.heap.size w1 w6 from ((HB.out.trans (hb4.mono hz0)).trans (hb5.mono (by omega))).trans (hb6.mono (by omega)))
                      have Hd := Lib.hid (show LnB w6.drew g6 (mixS T) ∧ Below w1.heap.size w1 w6.drew ∧ DigAt w g cap gn P w6.drew from ⟨hl6, Hb6.out.drew, HD1.out.next Hb6.out.drew⟩)
                      have hg6 : w1.heap.size ≤ g6 := by omega
                      have Hx := Lib.hid (iv_xor (ga (mixS T) 0) (rcS r))
                      clear hp hp2 hp3 hl4 hl5 hl6 hb4 hb5 hb6 h4 h5 h6 hz4 hz5 hz0
                      refine wp_region_still_tail 10 (by kernel_rfl) (by kernel_rfl) ?_
                      change wpStill _ _ w6.drew (fun a' => wpList _ _ _ _ a' w6.drew) _ _
                      generalize w6.drew = wd at Hd ⊢
                      have c0 := lc_cell Hd.out.1 (k := 0) (by rw [mix_len]; omega)
                      have c1 := Hd.out.2.2.nums r hlt3
                      have fz := lc_free Hd.out.1 0
                      (simp only [List.take_succ_cons, List.take_zero, List.drop_succ_cons, List.drop_zero]; (repeat (refine wpStill_step (fun K hK => ?_); go_simp; refine hK _ ?_; clear hK K)); try refine wpStill_nil ?_)
                      go_wp2
                      go_roundw
                      case rel =>
                        refine ⟨r + 1, g6, by omega, rfl, by go_num, ?_, hg6, Hd.out.2.1.setCell hg6 _⟩
                        have h := LnB.set Hd.out.1 0 (ga (mixS T) 0 ^^^ rcS r)
                        rw [← Hx.out] at h
                        rw [Hnx.out, stirS, iotaS]
                        exact h
                      case measure => simp [intOf]; omega
                    · have HSn := Lib.hid (show LnB wr gt (spS P (j + 1)) by have h := HL.out; rw [show r = 24 by omega, HD.out, Ho.out] at h; exact h)
                      have hn24 : ¬ (r : Int) < 24 := by omega
                      have m1 : IntKind.i64.wrap ((o : Int) + 136) = ((136 * (j + 1) : Nat) : Int) := by rw [IntWalk.i64_in _ (by omega)]; have := Ho.out; omega
                      have hms : q - (136 * ((j : Int) + 1)).toNat < q - o := by have := Ho.out; omega
                      clear hlt3 hr HL
                      go_wp2
                      go_roundw
                      case rel => exact ⟨j + 1, gt, by omega, rfl, by go_num, HSn.out, hgt, HB.out⟩
                      case measure => simpa [intOf] using hms
            · obtain ⟨st, hst⟩ : ∃ st, st = spS P nb := ⟨_, rfl⟩
              have HSe := Lib.hid (show LnB wr gs st by have h := HS.out; rwa [show j = nb by omega, ← hst] at h)
              have HDe := Lib.hid (show outS32 st 32 = digS b by rw [hst, HP.out, digS]; congr 2; have h1 := Hnb.out; have h2 := HPl.out; rw [HP.out] at h2; omega)
              have hstl : st.length = 25 := by rw [hst]; exact sp_len P nb
              have hoq : ¬ (o : Int) < (q : Int) := by have := Hnb.out; omega
              have HBw := Lib.hid (show Below w.heap.size w wr from (HD1.out.next HB.out).below)
              clear hst HS hlt hj ho
              go_wp2
              obtain ⟨wm, hwm⟩ : ∃ wm : World, wm = wr := ⟨_, rfl⟩
              rw [← hwm] at HSe HBw hgsl
              go_loopw [12, 13, 14, 15, 16] (fun v i _ _ _ w2 => ∃ x : Nat, x ≤ 4 ∧ w2.ownsRow wm.heap.size 5 1 v (8 * x) ((outS32 st (8 * x)).map bv) ∧ i = .int .i64 x ∧ Below wm.heap.size wm w2) (fun _ i _ _ _ _ => 4 - (intOf i).toNat)
              case atStart => exact ⟨0, by omega, World.ownsRow_nil _ _ _ _, rfl, by rw [hwm]; exact Below.refl _ _⟩
              case round =>
                clear hwm HB
                obtain ⟨x, hx, hown, rfl, hB⟩ := hrel
                have Hown := Lib.hid hown
                have HB := Lib.hid hB
                clear hown hB
                by_cases hlt2 : x < 4
                · have x4 : (x : Int) < 4 := by omega
                  have x25 : (x : Int) < 25 := by omega
                  have c0 : wr.cell? ⟨gs, x, none⟩ = some (.int .i64 (iv (ga st x))) := lc_cell (show LnB wr gs st from (HB.out.block gs hgsl).trans HSe.out) (by omega)
                  have Hl0 := Lib.hid (show iv (ga st x) = iv (ga st x) / 256 ^ 0 by simp)
                  go_wp2
                  go_loopw [12, 14, 15, 16] (fun v l k _ w3 => ∃ m : Nat, m ≤ 8 ∧ w3.ownsRow wm.heap.size 5 1 v (8 * x + m) ((outS32 st (8 * x + m)).map bv) ∧ l = .int .i64 (iv (ga st x) / 256 ^ m) ∧ k = .int .i64 m ∧ Below wm.heap.size wm w3) (fun _ _ k _ _ => 8 - (intOf k).toNat)
                  case atStart => exact ⟨0, by omega, Hown.out, by rw [← Hl0.out], rfl, HB.out⟩
                  case round =>
                    clear Hown HB c0 Hl0
                    obtain ⟨m, hm, hown, rfl, rfl, hB⟩ := hrel
                    obtain ⟨A1, cap1, rfl⟩ := own_slice hown
                    have Hown := Lib.hid hown
                    have HB := Lib.hid hB
                    clear hown hB
                    by_cases hlt3 : m < 8
                    · have m8 : (m : Int) < 8 := by omega
                      have hrg := out_range (ga st x) m
                      obtain ⟨ob, hob⟩ : ∃ ob, ob = UInt8.ofNat ((ga st ((8 * x + m) / 8)).toNat / 2 ^ ((8 * x + m) % 8 * 8) % 256) := ⟨_, rfl⟩
                      have hby := out_byte st (i := x) hlt3
                      rw [← hob] at hby
                      have Hon := Lib.hid (show outS32 st (8 * x + (m + 1)) = outS32 st (8 * x + m) ++ [ob] by rw [hob]; exact out_next st (8 * x + m))
                      have Hdv := Lib.hid (out_pow (iv (ga st x)) m)
                      generalize iv (ga st x) / 256 ^ m = lv at *
                      obtain ⟨lw, hlw⟩ : ∃ lw, lw = lv % 256 := ⟨_, rfl⟩
                      obtain ⟨ln, hln⟩ : ∃ ln, ln = lv / 256 := ⟨_, rfl⟩
                      have t1 : bits .and .i64 lv 255 = lw := by rw [and255, hlw]
                      have t2 : IntKind.u8.wrap lw = (ob.toNat : Int) := by rw [hlw]; exact hby
                      have t3 : IntKind.i64.wrap (lv - lw) = lv - lw := IntWalk.i64_in _ (by omega)
                      have t4 : (lv - lw).tdiv 256 = ln := by rw [hlw, out_div, hln]
                      have t5 : IntKind.i64.wrap ln = ln := IntWalk.i64_in _ (by omega)
                      rw [← hln] at Hdv
                      clear hob hlw hln hby hrg
                      go_wp2_with (at_builtin; refine wpl_app _ rfl _ _ _ rfl wm.heap.size 5 i0 (.int .u8 0) 1 1 Tryd.underlying22 hi0 hz0 hz1 hz2 rfl (by decide) _ (8 * x + m) _ rfl (Hown.out.alloc _) (some ⟨wr.heap.size, 0, none⟩) 1 1 [bv ob] rfl rfl (one_src _ _ _) (by simp [bv, Value.oneCell']) (by unfold maxLen; omega) (by omega) (by have := HB.out.size; simp; omega) ?_; intro v1 w4 hown1 hg1 hat1)
                      go_roundw
                      case rel => exact ⟨m + 1, by omega, by rw [Hon.out]; simpa [Nat.add_assoc] using hown1, by rw [Hdv.out], by go_num, (HB.out.alloc (HB.out.size) _).trans (own_below (Hown.out.alloc _) hg1 (by have := HB.out.size; simp; omega))⟩
                      case measure => simp [intOf]; omega
                    · have Hown1 := Lib.hid (show wr.ownsRow wm.heap.size 5 1 (.slice A1 (8 * x + m) cap1) (8 * (x + 1)) ((outS32 st (8 * (x + 1))).map bv) by have h := Hown.out; rw [show m = 8 by omega] at h ⊢; exact h)
                      have hn8 : ¬ (m : Int) < 8 := by omega
                      have m1 : IntKind.i64.wrap ((x : Int) + 1) = (x : Int) + 1 := IntWalk.i64_in _ (by omega)
                      clear hlt3 hm Hown
                      go_wp2
                      go_roundw
                      case rel => exact ⟨x + 1, by omega, Hown1.out, by go_num, HB.out⟩
                      case measure => simp [intOf]; omega
                · have Hown1 := Lib.hid (show wr.ownsRow w.heap.size 5 1 (u12) 32 ((digS b).map bv) by have h := own_base Hown.out HBw.out.size; rw [show x = 4 by omega] at h; rw [← HDe.out]; exact h)
                  have hn4 : ¬ (x : Int) < 4 := by omega
                  clear hlt2 hx Hown
                  go_wp2
                  go_ret
                  exact ret_bs Hown1.out (HBw.out.trans (HB.out.mono HBw.out.size))
end Go.Proofs.YtjgdeeabejoegaaDoor
