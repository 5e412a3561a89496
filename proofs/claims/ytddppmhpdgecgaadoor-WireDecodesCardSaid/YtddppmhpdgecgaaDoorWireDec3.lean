/- Walk: wire.Decode of a request of parts 3. -/
import Derived.Test.YtddppmhpdgecgaaDoorWireDecS
namespace Go.Proofs.YtddppmhpdgecgaaDoor
open Go.RowKit
set_option linter.unusedVariables false
set_option linter.unusedSimpArgs false

set_option maxRecDepth 100000 in
set_option maxHeartbeats 4000000 in
theorem wireDec_3 (w : World) (hT : HasAt w) (P : Option Addr) (b : List UInt8) (pc k : Nat) (hb : Bs All w P b) (hpc : b.length ≤ pc) (h4 : b.length ≤ 4000) (h1 : 1 ≤ b.length) (hk : (b.getD 0 0).toNat = k) (hk1 : 1 ≤ k) (hk8 : k ≤ 8) (hh : hasS k = 3) :
    Calls Tryd.prog 27 #[.slice P b.length pc] w (RetRqE w (decK k 3 (b.drop 1, false))) := by
  obtain ⟨g, off, rfl, hc0⟩ := bs_zero hb h1
  rw [hk] at hc0
  have Hb := Lib.hid hb
  have HT := Lib.hid hT
  have Hg := Lib.hid (hT k (by omega))
  rw [hh] at Hg
  have hgl := World.block_lt_of_cell? w _ hc0
  have hka : ¬ (k : Int) < 1 := by omega
  have hkb : ¬ (8 : Int) < (k : Int) := by omega
  have hkc : (0 : Int) ≤ (k : Int) := by omega
  have hkd : (k : Int) < 9 := by omega
  have hke : k ≠ 0 := by omega
  have hb4 : ¬ (4000 : Int) < (b.length : Int) := by omega
  have hb0 : ((b.length : Int) == 0) = false := by simp; intro h; rw [h] at h1; simp at h1
  have hbn : b ≠ [] := by intro h; rw [h] at h1; simp at h1
  have i0 : (0 : Int) < (b.length : Int) := by omega
  have s1 : (1 : Int) ≤ (b.length : Int) := by omega
  have s2 : (b.length : Int) ≤ (pc : Int) := by omega
  have s3 : (1 : Int) ≤ (pc : Int) := by omega
  obtain ⟨s, es⟩ : ∃ s : Rdr, s = (b.drop 1, false) := ⟨_, rfl⟩
  have hD0 : ∀ X xc, b.length - 1 ≤ xc → Bs (Lo w.heap.size) ((w.alloc (.cells #[.int .i64 0, .slice none 0 0, .slice none 0 0, .slice none 0 0, .slice none 0 0] 24)).alloc (.cells #[.int .i64 k, .slice none 0 0, .slice none 0 0, .slice none 0 0, .slice none 0 0] 24)) X (b.drop 1) → DRq w k 3 s 0 (.slice X (b.length - 1) xc) ((w.alloc (.cells #[.int .i64 0, .slice none 0 0, .slice none 0 0, .slice none 0 0, .slice none 0 0] 24)).alloc (.cells #[.int .i64 k, .slice none 0 0, .slice none 0 0, .slice none 0 0, .slice none 0 0] 24)) := fun X xc hx hX => by
    subst es
    obtain ⟨h2, h3, h5, h6⟩ := two_rq w (.cells #[.int .i64 0, .slice none 0 0, .slice none 0 0, .slice none 0 0, .slice none 0 0] 24) (.cells #[.int .i64 k, .slice none 0 0, .slice none 0 0, .slice none 0 0, .slice none 0 0] 24)
    exact ⟨rfl, ⟨X, xc, by show _ = Value.slice X (b.drop 1).length xc; rw [List.length_drop], by show (b.drop 1).length ≤ xc; rw [List.length_drop]; exact hx, hX⟩, ⟨none, 0, none, 0, none, 0, none, 0, h3, SL.nil, SL.nil, SL.nil, SL.nil⟩, h2, h6, by omega⟩
  have Hlo := Lib.hid (show Bs (Lo w.heap.size) ((w.alloc (.cells #[.int .i64 0, .slice none 0 0, .slice none 0 0, .slice none 0 0, .slice none 0 0] 24)).alloc (.cells #[.int .i64 k, .slice none 0 0, .slice none 0 0, .slice none 0 0, .slice none 0 0] 24)) (some ⟨g, off, none⟩) b from (hb.low byteR_stays (Nat.le_refl _)).bsame (Same.of_low (((Below.refl _ _).alloc (Nat.le_refl _) _).alloc (by simp) _)))
  have HD0 := Lib.hid hD0
  rw [← es]
  have hs4 : s.1.length ≤ 4000 := by rw [es]; show (b.drop 1).length ≤ 4000; rw [List.length_drop]; omega
  have c0 : bits .and .i64 3 1 = 1 := by decide
  have x0 : ∀ W : World, (Instr.index 118 (.agg #[.pointer (some ⟨w.heap.size + 1, 1, none⟩), .pointer (some ⟨w.heap.size + 1, 2, none⟩), .pointer (some ⟨w.heap.size + 1, 3, none⟩), .pointer (some ⟨w.heap.size + 1, 4, none⟩)]) (.int .i64 0)).run Tryd.prog W = .ok (.pointer (some ⟨w.heap.size + 1, 1, none⟩)) W := fun _ => by kernel_rfl
  have c1 : bits .and .i64 1 1 = 1 := by decide
  have x1 : ∀ W : World, (Instr.index 118 (.agg #[.pointer (some ⟨w.heap.size + 1, 1, none⟩), .pointer (some ⟨w.heap.size + 1, 2, none⟩), .pointer (some ⟨w.heap.size + 1, 3, none⟩), .pointer (some ⟨w.heap.size + 1, 4, none⟩)]) (.int .i64 1)).run Tryd.prog W = .ok (.pointer (some ⟨w.heap.size + 1, 2, none⟩)) W := fun _ => by kernel_rfl
  have c2 : bits .and .i64 0 1 = 0 := by decide
  have x2 : ∀ W : World, (Instr.index 118 (.agg #[.pointer (some ⟨w.heap.size + 1, 1, none⟩), .pointer (some ⟨w.heap.size + 1, 2, none⟩), .pointer (some ⟨w.heap.size + 1, 3, none⟩), .pointer (some ⟨w.heap.size + 1, 4, none⟩)]) (.int .i64 2)).run Tryd.prog W = .ok (.pointer (some ⟨w.heap.size + 1, 3, none⟩)) W := fun _ => by kernel_rfl
  have c3 : bits .and .i64 0 1 = 0 := by decide
  have x3 : ∀ W : World, (Instr.index 118 (.agg #[.pointer (some ⟨w.heap.size + 1, 1, none⟩), .pointer (some ⟨w.heap.size + 1, 2, none⟩), .pointer (some ⟨w.heap.size + 1, 3, none⟩), .pointer (some ⟨w.heap.size + 1, 4, none⟩)]) (.int .i64 3)).run Tryd.prog W = .ok (.pointer (some ⟨w.heap.size + 1, 4, none⟩)) W := fun _ => by kernel_rfl
  clear hb hT hh hD0 es
  go_enter Tryd.func27, Tryd.ntmps27
  go_wp2
  all_goals
    go_loopw [5, 39] (fun v i wr => ∃ j : Nat, j ≤ 4 ∧ i = .int .i64 j ∧ DRq w k 3 s j v wr) (fun _ i _ => 4 - (intOf i).toNat)
    case atStart =>
      refine ⟨0, by omega, rfl, HD0.out _ _ (by omega) ?_⟩
      first
        | (rw [List.drop_eq_nil_of_le (by omega)]; exact SL.nil)
        | (have h := bs_from Hlo.out 1; rw [Option.map_some, add_at] at h; exact h)
    case round =>
      obtain ⟨j, hj, rfl, hd⟩ := hrel
      have Hd := Lib.hid hd
      have hsz := hd.siz
      have hlong := hd.long
      obtain ⟨X, xc, hv, hxc, hX⟩ := hd.rest
      obtain ⟨A, a, B, b2, C, c, D, d, hbox, hA, hB, hC, hD⟩ := hd.box
      obtain ⟨⟨g0, g1, g2, g3, g4⟩, f0, f1, f2, f3, f4⟩ := box5 hbox
      have hcell := (hd.bel.cell (p := ⟨0, k, none⟩) (World.block_lt_of_cell? w _ Hg.out)).trans Hg.out
      have hq4 := Nat.le_trans (rd_len 3 s j) hs4
      subst hv
      have HX := Lib.hid hX
      have HA := Lib.hid hA
      have HB := Lib.hid hB
      have HC := Lib.hid hC
      have HDD := Lib.hid hD
      clear hd hX hA hB hC hD
      rcases (by omega : j = 0 ∨ j = 1 ∨ j = 2 ∨ j = 3 ∨ j = 4) with rfl | rfl | rfl | rfl | rfl
      · have hpair : rdUp 3 s 0 = ((rdUp 3 s 0).1, false) := Prod.ext rfl hlong
        have hr0 : rdUp 3 s 1 = (pieceS (rdUp 3 s 0)).2 := by show (fldS 3 0 (rdUp 3 s 0)).2 = _; unfold fldS; rw [if_pos (by decide)]
        have hf0 : fAt 3 s 0 = (pieceS (rdUp 3 s 0)).1 := by unfold fAt fldS; rw [if_pos (by decide)]
        rw [hpair] at hr0 hf0
        have Hr0 := Lib.hid hr0
        have Hf0 := Lib.hid hf0
        have Hend := Lib.hid (show (pieceS ((rdUp 3 s 0).1, false)).2.2 = true → decK k 3 s = (rq0, 14) from fun h => by unfold decK; rw [if_pos (rdUp_short (j := 1) (by omega) (by rw [Hr0.out]; exact h))])
        clear hpair hr0 hf0 hlong
        generalize (rdUp 3 s 0).1 = q at *
        obtain ⟨⟨r0, r1, r2, r3, r4⟩, rf0, rf1, rf2, rf3, rf4⟩ := box5 Hd.out.res
        by_cases hq0 : q.length = 0
        · have Hv := Lib.hid (Hend.out (piece_fails (.inl hq0)))
          have t0 : ((q.length : Int) == 0) = true := by rw [hq0]; rfl
          have t1 : q = [] := List.eq_nil_of_length_eq_zero hq0
          clear hq0 hq4 hxc
          go_wp2
          refine bodyPost_ret (v := .tuple #[.agg #[.int .i64 0, .slice none 0 0, .slice none 0 0, .slice none 0 0, .slice none 0 0], .int .i64 14]) (by simp [results, Tryd.results27, go_sem, r0, r1, r2, r3, r4]) rfl ?_
          rw [Hv.out]
          exact ⟨none, 0, none, 0, none, 0, none, 0, rfl, SL.nil, SL.nil, SL.nil, SL.nil, (((((Hd.out.bel.setCell (by show w.heap.size ≤ w.heap.size; omega) _).setCell (by show w.heap.size ≤ w.heap.size; omega) _).setCell (by show w.heap.size ≤ w.heap.size; omega) _).setCell (by show w.heap.size ≤ w.heap.size; omega) _).setCell (by show w.heap.size ≤ w.heap.size; omega) _)⟩
        · obtain ⟨gx, ox, rfl, hx0⟩ := bs_zero HX.out (by omega)
          have hy := (q.getD 0 0).toNat_lt
          have hq1 : q ≠ [] := fun h => hq0 (by rw [h]; rfl)
          have t0 : ((q.length : Int) == 0) = false := by simp; exact hq1
          have t2 : (0 : Int) < (q.length : Int) := by omega
          have hw : IntKind.i64.wrap (1 + ((q.getD 0 0).toNat : Int)) = 1 + ((q.getD 0 0).toNat : Int) := IntWalk.i64_in _ (by omega)
          by_cases hq2 : q.length < 1 + (q.getD 0 0).toNat
          · have Hv := Lib.hid (Hend.out (piece_fails (.inr hq2)))
            have t3 : decide ((q.length : Int) < 1 + ((q.getD 0 0).toNat : Int)) = true := decide_eq_true (by omega)
            generalize (q.getD 0 0).toNat = y at *
            clear hq2
            go_wp2
            refine bodyPost_ret (v := .tuple #[.agg #[.int .i64 0, .slice none 0 0, .slice none 0 0, .slice none 0 0, .slice none 0 0], .int .i64 14]) (by simp [results, Tryd.results27, go_sem, r0, r1, r2, r3, r4]) rfl ?_
            rw [Hv.out]
            exact ⟨none, 0, none, 0, none, 0, none, 0, rfl, SL.nil, SL.nil, SL.nil, SL.nil, (((((Hd.out.bel.setCell (by show w.heap.size ≤ w.heap.size; omega) _).setCell (by show w.heap.size ≤ w.heap.size; omega) _).setCell (by show w.heap.size ≤ w.heap.size; omega) _).setCell (by show w.heap.size ≤ w.heap.size; omega) _).setCell (by show w.heap.size ≤ w.heap.size; omega) _)⟩
          · have hg := piece_good (q := q) (by omega) (by omega)
            have Hr := Lib.hid (Hr0.out.trans (by rw [hg]))
            have Hf := Lib.hid (Hf0.out.trans (by rw [hg]))
            have t3 : decide ((q.length : Int) < 1 + ((q.getD 0 0).toNat : Int)) = false := decide_eq_false (by omega)
            clear hg Hr0 Hf0 Hend hq0
            generalize (q.getD 0 0).toNat = y at *
            have y0 : (0 : Int) ≤ (1 : Int) := by omega
            have y1 : (1 : Int) ≤ 1 + (y : Int) := by omega
            have y2 : 1 + (y : Int) ≤ (xc : Int) := by omega
            have y3 : 1 + (y : Int) ≤ (q.length : Int) := by omega
            have y4 : (q.length : Int) ≤ (xc : Int) := by omega
            have y5 : (0 : Int) ≤ 1 + (y : Int) := by omega
            have hl : ((q.drop 1).take y).length = y := by rw [List.length_take, List.length_drop]; omega
            have Hl := Lib.hid hl
            clear hl
            go_wp2_with (go_at_call 85; (with_reducible refine (clone_to _ _ _ ((q.drop 1).take y) ?hn _ ?ha ?hb).mono ?_); (case hn => (first | exact Hl.out.symm | (rw [Hl.out]; omega))); (case hb => (rw [Hl.out]; unfold big; omega)); (case ha => (first | exact (bs_if HX.out xc 1 y hxc).bz | exact (bs_sub HX.out 1 y).bz | (rw [show (q.drop 1).take y = [] from List.eq_nil_of_length_eq_zero (by rw [Hl.out]; omega)]; exact SL.nil))); rintro e w5 ⟨A5, c5, rfl, _, hs5, hb5⟩; have hz5 := hb5.size; have hbox5 := (hb5.block (w.heap.size + 1) (by omega)).trans hbox; obtain ⟨⟨p0, p1, p2, p3, p4⟩, pf0, pf1, pf2, pf3, pf4⟩ := box5 hbox5)
            all_goals
              go_roundw
              case rel =>
                have hfr : Below w.heap.size wr w5 := hb5.mono (by omega)
                have HXw := fun v : Value => ((HX.out.bsame (Same.of_low hfr)).bsame ((Same.refl (Lo w.heap.size) w5).setCell (p := ⟨w.heap.size + 1, 1, none⟩) (fun hq => by have hq2 : w.heap.size + 1 < w.heap.size := hq; omega) v))
                refine ⟨1, by omega, by go_num, ⟨by rw [Hr.out], ?_, ?_, ?_, ?_, ?_⟩⟩
                · rw [Hr.out]
                  dsimp only
                  rw [List.length_drop]
                  refine ⟨_, _, rfl, by omega, ?_⟩
                  first
                    | (have h := bs_from (HXw _) (1 + y); rw [Option.map_some, add_at] at h; exact h)
                    | (rw [List.drop_eq_nil_of_le (by omega)]; exact SL.nil)
                    | exact bs_if2 (HXw _) xc (1 + y) hxc
                    | exact bs_cut (HXw _) xc (1 + y) hxc
                · rw [show fUp 3 s 1 0 = (q.drop 1).take y from Hf.out, show fUp 3 s 1 1 = fUp 3 s 0 1 from rfl, show fUp 3 s 1 2 = fUp 3 s 0 2 from rfl, show fUp 3 s 1 3 = fUp 3 s 0 3 from rfl]
                  refine ⟨A5, c5, B, b2, C, c, D, d, ?_, (hs5.blo (m := w.heap.size + 2) (by omega)).bsame ((Same.refl _ _).setCell (fun hq => by have hq2 : w.heap.size + 2 ≤ w.heap.size + 1 := hq; omega) _), (HB.out.bbelow hb5).bsame ((Same.refl _ _).setCell (fun hq => by have hq2 : w.heap.size + 2 ≤ w.heap.size + 1 := hq; omega) _), (HC.out.bbelow hb5).bsame ((Same.refl _ _).setCell (fun hq => by have hq2 : w.heap.size + 2 ≤ w.heap.size + 1 := hq; omega) _), (HDD.out.bbelow hb5).bsame ((Same.refl _ _).setCell (fun hq => by have hq2 : w.heap.size + 2 ≤ w.heap.size + 1 := hq; omega) _)⟩
                  rw [Hl.out]
                  refine (heap_setCell_same _ _ _ _ _ _ hbox5).trans ?_
                  first | rfl | (rw [show min y (q.length - 1) = y by omega]; rfl)
                · rw [heap_setCell_other _ _ _ _ (by show w.heap.size ≠ w.heap.size + 1; omega), hb5.block _ (by omega)]
                  exact Hd.out.res
                · exact (Hd.out.bel.trans hfr).setCell (by show w.heap.size ≤ w.heap.size + 1; omega) _
                · simp; omega
              case measure => simp [intOf]
      · have hpair : rdUp 3 s 1 = ((rdUp 3 s 1).1, false) := Prod.ext rfl hlong
        have hr0 : rdUp 3 s 2 = (pieceS (rdUp 3 s 1)).2 := by show (fldS 3 1 (rdUp 3 s 1)).2 = _; unfold fldS; rw [if_pos (by decide)]
        have hf0 : fAt 3 s 1 = (pieceS (rdUp 3 s 1)).1 := by unfold fAt fldS; rw [if_pos (by decide)]
        rw [hpair] at hr0 hf0
        have Hr0 := Lib.hid hr0
        have Hf0 := Lib.hid hf0
        have Hend := Lib.hid (show (pieceS ((rdUp 3 s 1).1, false)).2.2 = true → decK k 3 s = (rq0, 14) from fun h => by unfold decK; rw [if_pos (rdUp_short (j := 2) (by omega) (by rw [Hr0.out]; exact h))])
        clear hpair hr0 hf0 hlong
        generalize (rdUp 3 s 1).1 = q at *
        obtain ⟨⟨r0, r1, r2, r3, r4⟩, rf0, rf1, rf2, rf3, rf4⟩ := box5 Hd.out.res
        by_cases hq0 : q.length = 0
        · have Hv := Lib.hid (Hend.out (piece_fails (.inl hq0)))
          have t0 : ((q.length : Int) == 0) = true := by rw [hq0]; rfl
          have t1 : q = [] := List.eq_nil_of_length_eq_zero hq0
          clear hq0 hq4 hxc
          go_wp2
          refine bodyPost_ret (v := .tuple #[.agg #[.int .i64 0, .slice none 0 0, .slice none 0 0, .slice none 0 0, .slice none 0 0], .int .i64 14]) (by simp [results, Tryd.results27, go_sem, r0, r1, r2, r3, r4]) rfl ?_
          rw [Hv.out]
          exact ⟨none, 0, none, 0, none, 0, none, 0, rfl, SL.nil, SL.nil, SL.nil, SL.nil, (((((Hd.out.bel.setCell (by show w.heap.size ≤ w.heap.size; omega) _).setCell (by show w.heap.size ≤ w.heap.size; omega) _).setCell (by show w.heap.size ≤ w.heap.size; omega) _).setCell (by show w.heap.size ≤ w.heap.size; omega) _).setCell (by show w.heap.size ≤ w.heap.size; omega) _)⟩
        · obtain ⟨gx, ox, rfl, hx0⟩ := bs_zero HX.out (by omega)
          have hy := (q.getD 0 0).toNat_lt
          have hq1 : q ≠ [] := fun h => hq0 (by rw [h]; rfl)
          have t0 : ((q.length : Int) == 0) = false := by simp; exact hq1
          have t2 : (0 : Int) < (q.length : Int) := by omega
          have hw : IntKind.i64.wrap (1 + ((q.getD 0 0).toNat : Int)) = 1 + ((q.getD 0 0).toNat : Int) := IntWalk.i64_in _ (by omega)
          by_cases hq2 : q.length < 1 + (q.getD 0 0).toNat
          · have Hv := Lib.hid (Hend.out (piece_fails (.inr hq2)))
            have t3 : decide ((q.length : Int) < 1 + ((q.getD 0 0).toNat : Int)) = true := decide_eq_true (by omega)
            generalize (q.getD 0 0).toNat = y at *
            clear hq2
            go_wp2
            refine bodyPost_ret (v := .tuple #[.agg #[.int .i64 0, .slice none 0 0, .slice none 0 0, .slice none 0 0, .slice none 0 0], .int .i64 14]) (by simp [results, Tryd.results27, go_sem, r0, r1, r2, r3, r4]) rfl ?_
            rw [Hv.out]
            exact ⟨none, 0, none, 0, none, 0, none, 0, rfl, SL.nil, SL.nil, SL.nil, SL.nil, (((((Hd.out.bel.setCell (by show w.heap.size ≤ w.heap.size; omega) _).setCell (by show w.heap.size ≤ w.heap.size; omega) _).setCell (by show w.heap.size ≤ w.heap.size; omega) _).setCell (by show w.heap.size ≤ w.heap.size; omega) _).setCell (by show w.heap.size ≤ w.heap.size; omega) _)⟩
          · have hg := piece_good (q := q) (by omega) (by omega)
            have Hr := Lib.hid (Hr0.out.trans (by rw [hg]))
            have Hf := Lib.hid (Hf0.out.trans (by rw [hg]))
            have t3 : decide ((q.length : Int) < 1 + ((q.getD 0 0).toNat : Int)) = false := decide_eq_false (by omega)
            clear hg Hr0 Hf0 Hend hq0
            generalize (q.getD 0 0).toNat = y at *
            have y0 : (0 : Int) ≤ (1 : Int) := by omega
            have y1 : (1 : Int) ≤ 1 + (y : Int) := by omega
            have y2 : 1 + (y : Int) ≤ (xc : Int) := by omega
            have y3 : 1 + (y : Int) ≤ (q.length : Int) := by omega
            have y4 : (q.length : Int) ≤ (xc : Int) := by omega
            have y5 : (0 : Int) ≤ 1 + (y : Int) := by omega
            have hl : ((q.drop 1).take y).length = y := by rw [List.length_take, List.length_drop]; omega
            have Hl := Lib.hid hl
            clear hl
            go_wp2_with (go_at_call 85; (with_reducible refine (clone_to _ _ _ ((q.drop 1).take y) ?hn _ ?ha ?hb).mono ?_); (case hn => (first | exact Hl.out.symm | (rw [Hl.out]; omega))); (case hb => (rw [Hl.out]; unfold big; omega)); (case ha => (first | exact (bs_if HX.out xc 1 y hxc).bz | exact (bs_sub HX.out 1 y).bz | (rw [show (q.drop 1).take y = [] from List.eq_nil_of_length_eq_zero (by rw [Hl.out]; omega)]; exact SL.nil))); rintro e w5 ⟨A5, c5, rfl, _, hs5, hb5⟩; have hz5 := hb5.size; have hbox5 := (hb5.block (w.heap.size + 1) (by omega)).trans hbox; obtain ⟨⟨p0, p1, p2, p3, p4⟩, pf0, pf1, pf2, pf3, pf4⟩ := box5 hbox5)
            all_goals
              go_roundw
              case rel =>
                have hfr : Below w.heap.size wr w5 := hb5.mono (by omega)
                have HXw := fun v : Value => ((HX.out.bsame (Same.of_low hfr)).bsame ((Same.refl (Lo w.heap.size) w5).setCell (p := ⟨w.heap.size + 1, 2, none⟩) (fun hq => by have hq2 : w.heap.size + 1 < w.heap.size := hq; omega) v))
                refine ⟨2, by omega, by go_num, ⟨by rw [Hr.out], ?_, ?_, ?_, ?_, ?_⟩⟩
                · rw [Hr.out]
                  dsimp only
                  rw [List.length_drop]
                  refine ⟨_, _, rfl, by omega, ?_⟩
                  first
                    | (have h := bs_from (HXw _) (1 + y); rw [Option.map_some, add_at] at h; exact h)
                    | (rw [List.drop_eq_nil_of_le (by omega)]; exact SL.nil)
                    | exact bs_if2 (HXw _) xc (1 + y) hxc
                    | exact bs_cut (HXw _) xc (1 + y) hxc
                · rw [show fUp 3 s 2 0 = fUp 3 s 1 0 from rfl, show fUp 3 s 2 1 = (q.drop 1).take y from Hf.out, show fUp 3 s 2 2 = fUp 3 s 1 2 from rfl, show fUp 3 s 2 3 = fUp 3 s 1 3 from rfl]
                  refine ⟨A, a, A5, c5, C, c, D, d, ?_, (HA.out.bbelow hb5).bsame ((Same.refl _ _).setCell (fun hq => by have hq2 : w.heap.size + 2 ≤ w.heap.size + 1 := hq; omega) _), (hs5.blo (m := w.heap.size + 2) (by omega)).bsame ((Same.refl _ _).setCell (fun hq => by have hq2 : w.heap.size + 2 ≤ w.heap.size + 1 := hq; omega) _), (HC.out.bbelow hb5).bsame ((Same.refl _ _).setCell (fun hq => by have hq2 : w.heap.size + 2 ≤ w.heap.size + 1 := hq; omega) _), (HDD.out.bbelow hb5).bsame ((Same.refl _ _).setCell (fun hq => by have hq2 : w.heap.size + 2 ≤ w.heap.size + 1 := hq; omega) _)⟩
                  rw [Hl.out]
                  refine (heap_setCell_same _ _ _ _ _ _ hbox5).trans ?_
                  first | rfl | (rw [show min y (q.length - 1) = y by omega]; rfl)
                · rw [heap_setCell_other _ _ _ _ (by show w.heap.size ≠ w.heap.size + 1; omega), hb5.block _ (by omega)]
                  exact Hd.out.res
                · exact (Hd.out.bel.trans hfr).setCell (by show w.heap.size ≤ w.heap.size + 1; omega) _
                · simp; omega
              case measure => simp [intOf]
      · have hr : rdUp 3 s 3 = rdUp 3 s 2 := by show (fldS 3 2 (rdUp 3 s 2)).2 = _; unfold fldS; rw [if_neg (by decide)]
        have hf : fAt 3 s 2 = [] := by unfold fAt fldS; rw [if_neg (by decide)]
        go_wp2
        go_roundw
        case rel =>
          refine ⟨3, by omega, by go_num, ⟨by rw [hr]; exact hlong, ⟨X, xc, by rw [hr], by rw [hr]; exact hxc, by rw [hr]; exact HX.out⟩, ?_, Hd.out.res, Hd.out.bel, hsz⟩⟩
          rw [show fUp 3 s 3 0 = fUp 3 s 2 0 from rfl, show fUp 3 s 3 1 = fUp 3 s 2 1 from rfl, show fUp 3 s 3 2 = fUp 3 s 2 2 from hf, show fUp 3 s 3 3 = fUp 3 s 2 3 from rfl]
          exact Hd.out.box
        case measure => simp [intOf]
      · have hr : rdUp 3 s 4 = rdUp 3 s 3 := by show (fldS 3 3 (rdUp 3 s 3)).2 = _; unfold fldS; rw [if_neg (by decide)]
        have hf : fAt 3 s 3 = [] := by unfold fAt fldS; rw [if_neg (by decide)]
        go_wp2
        go_roundw
        case rel =>
          refine ⟨4, by omega, by go_num, ⟨by rw [hr]; exact hlong, ⟨X, xc, by rw [hr], by rw [hr]; exact hxc, by rw [hr]; exact HX.out⟩, ?_, Hd.out.res, Hd.out.bel, hsz⟩⟩
          rw [show fUp 3 s 4 0 = fUp 3 s 3 0 from rfl, show fUp 3 s 4 1 = fUp 3 s 3 1 from rfl, show fUp 3 s 4 2 = fUp 3 s 3 2 from rfl, show fUp 3 s 4 3 = fUp 3 s 3 3 from hf]
          exact Hd.out.box
        case measure => simp [intOf]
      · have hpair : rdUp 3 s 4 = ((rdUp 3 s 4).1, false) := Prod.ext rfl hlong
        rw [show fUp 3 s 4 0 = fAt 3 s 0 from rfl] at hbox g1
        rw [show fUp 3 s 4 1 = fAt 3 s 1 from rfl] at hbox g2
        rw [show fUp 3 s 4 2 = fAt 3 s 2 from rfl] at hbox g3
        rw [show fUp 3 s 4 3 = fAt 3 s 3 from rfl] at hbox g4
        have HA' := Lib.hid (show Bs (From (w.heap.size + 2)) wr A (fAt 3 s 0) from HA.out)
        have HB' := Lib.hid (show Bs (From (w.heap.size + 2)) wr B (fAt 3 s 1) from HB.out)
        have HC' := Lib.hid (show Bs (From (w.heap.size + 2)) wr C (fAt 3 s 2) from HC.out)
        have HDD' := Lib.hid (show Bs (From (w.heap.size + 2)) wr D (fAt 3 s 3) from HDD.out)
        have Hck := Lib.hid (show ∀ W, HasAt W → Calls Tryd.prog 21 #[.agg #[.int .i64 (k : Int), .slice A (fAt 3 s 0).length a, .slice B (fAt 3 s 1).length b2, .slice C (fAt 3 s 2).length c, .slice D (fAt 3 s 3).length d]] W (RetV W (.int .i64 (rqFault (rqS k 3 s)))) from fun W h => wireCheck_ok W h A B C D (rqS k 3 s) a b2 c d)
        have Hdec := Lib.hid (show decK k 3 s = if 0 < (rdUp 3 s 4).1.length then (rq0, 4) else if rqFault (rqS k 3 s) ≠ 0 then (rq0, rqFault (rqS k 3 s)) else (⟨k, fAt 3 s 0, fAt 3 s 1, fAt 3 s 2, fAt 3 s 3⟩, 0) by unfold decK; rw [if_neg (by rw [hlong]; decide)]; rfl)
        clear hpair hlong HA HB HC HDD
        generalize (rdUp 3 s 4).1 = q at *
        generalize rqFault (rqS k 3 s) = fault at *
        generalize fAt 3 s 0 = xn at *
        generalize fAt 3 s 1 = xk at *
        generalize fAt 3 s 2 = xl at *
        generalize fAt 3 s 3 = xv at *
        obtain ⟨⟨r0, r1, r2, r3, r4⟩, rf0, rf1, rf2, rf3, rf4⟩ := box5 Hd.out.res
        by_cases hq : 0 < q.length
        · have Hv := Lib.hid (Hdec.out.trans (if_pos hq))
          have t1 : decide ((0 : Int) < (q.length : Int)) = true := decide_eq_true (by omega)
          go_wp2
          refine bodyPost_ret (v := .tuple #[.agg #[.int .i64 0, .slice none 0 0, .slice none 0 0, .slice none 0 0, .slice none 0 0], .int .i64 4]) (by simp [results, Tryd.results27, go_sem, r0, r1, r2, r3, r4]) rfl ?_
          rw [Hv.out]
          exact ⟨none, 0, none, 0, none, 0, none, 0, rfl, SL.nil, SL.nil, SL.nil, SL.nil, (((((Hd.out.bel.setCell (by show w.heap.size ≤ w.heap.size; omega) _).setCell (by show w.heap.size ≤ w.heap.size; omega) _).setCell (by show w.heap.size ≤ w.heap.size; omega) _).setCell (by show w.heap.size ≤ w.heap.size; omega) _).setCell (by show w.heap.size ≤ w.heap.size; omega) _)⟩
        · have t1 : decide ((0 : Int) < (q.length : Int)) = false := decide_eq_false (by omega)
          have Hd2 := Lib.hid (Hdec.out.trans (if_neg hq))
          by_cases he : fault = 0
          · subst he
            have Hv := Lib.hid (Hd2.out.trans (if_neg (by decide)))
            go_wp2_with (go_at_call 21; refine (Hck.out _ (HT.out.below Hd.out.bel)).mono ?_; rintro e w7 ⟨rfl, hb7⟩; have z7 := hb7.size; obtain ⟨⟨u0, u1, u2, u3, u4⟩, uf0, uf1, uf2, uf3, uf4⟩ := box5 ((hb7.block w.heap.size (by omega)).trans Hd.out.res); obtain ⟨⟨k0, k1, k2, k3, k4⟩, _⟩ := box5 ((hb7.block (w.heap.size + 1) (by omega)).trans hbox))
            refine bodyPost_ret (v := .tuple #[.agg #[.int .i64 k, .slice A xn.length a, .slice B xk.length b2, .slice C xl.length c, .slice D xv.length d], .int .i64 0]) (by simp [results, Tryd.results27, go_sem, u0, u1, u2, u3, u4]) rfl ?_
            rw [Hv.out]
            exact ⟨A, a, B, b2, C, c, D, d, rfl, ((HA'.out.bbelow hb7).bsame ((((((Same.refl _ _).setCell (fun hq => by have hq2 : w.heap.size + 2 ≤ w.heap.size := hq; omega) _).setCell (fun hq => by have hq2 : w.heap.size + 2 ≤ w.heap.size := hq; omega) _).setCell (fun hq => by have hq2 : w.heap.size + 2 ≤ w.heap.size := hq; omega) _).setCell (fun hq => by have hq2 : w.heap.size + 2 ≤ w.heap.size := hq; omega) _).setCell (fun hq => by have hq2 : w.heap.size + 2 ≤ w.heap.size := hq; omega) _)).blo (by omega), ((HB'.out.bbelow hb7).bsame ((((((Same.refl _ _).setCell (fun hq => by have hq2 : w.heap.size + 2 ≤ w.heap.size := hq; omega) _).setCell (fun hq => by have hq2 : w.heap.size + 2 ≤ w.heap.size := hq; omega) _).setCell (fun hq => by have hq2 : w.heap.size + 2 ≤ w.heap.size := hq; omega) _).setCell (fun hq => by have hq2 : w.heap.size + 2 ≤ w.heap.size := hq; omega) _).setCell (fun hq => by have hq2 : w.heap.size + 2 ≤ w.heap.size := hq; omega) _)).blo (by omega), ((HC'.out.bbelow hb7).bsame ((((((Same.refl _ _).setCell (fun hq => by have hq2 : w.heap.size + 2 ≤ w.heap.size := hq; omega) _).setCell (fun hq => by have hq2 : w.heap.size + 2 ≤ w.heap.size := hq; omega) _).setCell (fun hq => by have hq2 : w.heap.size + 2 ≤ w.heap.size := hq; omega) _).setCell (fun hq => by have hq2 : w.heap.size + 2 ≤ w.heap.size := hq; omega) _).setCell (fun hq => by have hq2 : w.heap.size + 2 ≤ w.heap.size := hq; omega) _)).blo (by omega), ((HDD'.out.bbelow hb7).bsame ((((((Same.refl _ _).setCell (fun hq => by have hq2 : w.heap.size + 2 ≤ w.heap.size := hq; omega) _).setCell (fun hq => by have hq2 : w.heap.size + 2 ≤ w.heap.size := hq; omega) _).setCell (fun hq => by have hq2 : w.heap.size + 2 ≤ w.heap.size := hq; omega) _).setCell (fun hq => by have hq2 : w.heap.size + 2 ≤ w.heap.size := hq; omega) _).setCell (fun hq => by have hq2 : w.heap.size + 2 ≤ w.heap.size := hq; omega) _)).blo (by omega), ((((((Hd.out.bel.trans (hb7.mono (by omega))).setCell (by show w.heap.size ≤ w.heap.size; omega) _).setCell (by show w.heap.size ≤ w.heap.size; omega) _).setCell (by show w.heap.size ≤ w.heap.size; omega) _).setCell (by show w.heap.size ≤ w.heap.size; omega) _).setCell (by show w.heap.size ≤ w.heap.size; omega) _)⟩
          · have he' : (fault != 0) = true := by simpa using he
            have Hv := Lib.hid (Hd2.out.trans (if_pos he))
            go_wp2_with (go_at_call 21; refine (Hck.out _ (HT.out.below Hd.out.bel)).mono ?_; rintro e w7 ⟨rfl, hb7⟩; have z7 := hb7.size; obtain ⟨⟨u0, u1, u2, u3, u4⟩, uf0, uf1, uf2, uf3, uf4⟩ := box5 ((hb7.block w.heap.size (by omega)).trans Hd.out.res); obtain ⟨⟨k0, k1, k2, k3, k4⟩, _⟩ := box5 ((hb7.block (w.heap.size + 1) (by omega)).trans hbox))
            refine bodyPost_ret (v := .tuple #[.agg #[.int .i64 0, .slice none 0 0, .slice none 0 0, .slice none 0 0, .slice none 0 0], .int .i64 fault]) (by simp [results, Tryd.results27, go_sem, u0, u1, u2, u3, u4]) rfl ?_
            rw [Hv.out]
            exact ⟨none, 0, none, 0, none, 0, none, 0, rfl, SL.nil, SL.nil, SL.nil, SL.nil, ((((((Hd.out.bel.trans (hb7.mono (by omega))).setCell (by show w.heap.size ≤ w.heap.size; omega) _).setCell (by show w.heap.size ≤ w.heap.size; omega) _).setCell (by show w.heap.size ≤ w.heap.size; omega) _).setCell (by show w.heap.size ≤ w.heap.size; omega) _).setCell (by show w.heap.size ≤ w.heap.size; omega) _)⟩
end Go.Proofs.YtddppmhpdgecgaaDoor
