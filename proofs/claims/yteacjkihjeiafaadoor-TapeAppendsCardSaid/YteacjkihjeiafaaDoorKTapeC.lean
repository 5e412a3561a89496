/- TapeC: Walk: TapeAppended. The conditions of each are in its words. -/
import Derived.Test.YteacjkihjeiafaaDoorKTapeB
namespace Go.Proofs.YteacjkihjeiafaaDoor
open Go.RowKit
set_option linter.unusedVariables false
set_option linter.unusedSimpArgs false

theorem ApAt.drew {w W : World} {A V : Option Addr} {t : Tp} {x : Cm} {c n : Nat} (h : ApAt w A V t x c n W) : ApAt w A V t x c n W.drew := ⟨h.p1, h.p2, h.p3, h.b.drew, h.z⟩
set_option maxRecDepth 100000 in
set_option maxHeartbeats 600000 in
theorem tapeAppended_ok (w : World) (A V : Option Addr) (t : Tp) (x : Cm) (c n : Nat) (ha : Bs All w A t.1) (hx : Ws All w V x.2) (h80 : x.2.length * 80 ≤ 140737488355328) :
    Calls Tryd.prog 21 #[.agg #[.slice A t.1.length c, .int .i64 t.2], .agg #[.int .i64 x.1, .slice V x.2.length n]] w (RetTapeE w (appendS t x)) := by
  obtain ⟨i0, hi0, hy0, hy1, hy2⟩ := info_parts info_u8
  have Ha := Lib.hid ha
  have Hx := Lib.hid hx
  clear ha hx
  have H0 := Lib.hid (apAt_new w A V t x c n)
  rcases Bool.eq_false_or_eq_true (mayS t) with hm | hm
  · obtain ⟨b, be, hb⟩ : ∃ b be, encS x = (b, be) := ⟨_, _, rfl⟩
    have Hb := Lib.hid hb
    have Hm := Lib.hid hm
    have hb' : encS (x.1, x.2) = (b, be) := hb
    by_cases hz : be = 0
    · subst hz
      have h600 := enc_small (c := x) (by rw [hb])
      rw [hb] at h600
      simp only [] at h600
      have hfl := frame_len b
      by_cases hbig : 200000 < t.1.length + (frameS b).length
      · have Hv := Lib.hid (show appendS t x = (([], 0), 11) by unfold appendS; rw [if_neg (by simp [hm]), hb, if_neg (by simp), if_pos hbig])
        have Hfl := Lib.hid hfl
        have Hbig := Lib.hid hbig
        have H6 := Lib.hid h600
        obtain ⟨hi, hhi⟩ : ∃ hi, hi = UInt8.ofNat (b.length / 256) := ⟨_, rfl⟩
        obtain ⟨lo, hlo⟩ : ∃ lo, lo = UInt8.ofNat b.length := ⟨_, rfl⟩
        obtain ⟨q, hq⟩ : ∃ q, q = b.length / 256 := ⟨_, rfl⟩
        obtain ⟨r, hr⟩ : ∃ r, r = b.length % 256 := ⟨_, rfl⟩
        have t1 : (b.length : Int).tdiv 256 = (q : Int) := by rw [Int.tdiv_eq_ediv_of_nonneg (by omega)]; omega
        have t2 : (b.length : Int).tmod 256 = (r : Int) := by rw [Int.tmod_eq_emod_of_nonneg (by omega)]; omega
        have t3 : IntKind.i64.wrap (q : Int) = (q : Int) := IntWalk.i64_in _ (by omega)
        have t4 : IntKind.u8.wrap (q : Int) = (hi.toNat : Int) := by rw [hhi, ← hq, wrap_u8]
        have t5 : IntKind.u8.wrap (r : Int) = (lo.toNat : Int) := by rw [hlo, wrap_u8, hr, mod_ofNat]
        have Hl2 := Lib.hid (show len2 b = [hi, lo] ++ b by rw [hhi, hlo]; rfl)
        obtain ⟨f2, hf2⟩ : ∃ f2, f2 = len2 b := ⟨_, rfl⟩
        obtain ⟨dg, hdg⟩ : ∃ dg, dg = digS f2 := ⟨_, rfl⟩
        obtain ⟨ff, hff⟩ : ∃ ff, ff = f2 ++ dg.take 4 := ⟨_, rfl⟩
        have Hff := Lib.hid (show frameS b = ff by rw [hff, hdg, hf2]; rfl)
        have Hf2 := Lib.hid (show f2 = [hi, lo] ++ b from hf2.trans Hl2.out)
        have Hf2l := Lib.hid (show f2.length = 2 + b.length by rw [hf2, len2_len]; omega)
        have Hdl := Lib.hid (show dg.length = 32 by rw [hdg]; exact dig_len _)
        have Hffl := Lib.hid (show ff.length = f2.length + 4 by rw [hff, hdg]; simp [dig_len])
        have Hdg := Lib.hid hdg
        have Hfe := Lib.hid hff
        have hffz : (200000 : Int) < (t.1.length : Int) + (ff.length : Int) := by rw [Hff.out] at hbig; omega
        have hw64 : IntKind.i64.wrap ((t.1.length : Int) + (ff.length : Int)) = (t.1.length : Int) + (ff.length : Int) := IntWalk.i64_in _ (by have := Hffl.out; have := Hf2l.out; have := (mayS_iff t).1 hm; omega)
        have Htl := Lib.hid ((mayS_iff t).1 hm)
        have Hj := Lib.hid (show ∀ (W : World) (A' B' : Option Addr) (c' d' : Nat), Bs All W A' f2 → Bs All W B' (dg.take 4) → Calls Tryd.prog 55 #[.slice A' f2.length c', .slice B' 4 d'] W (RetBs W ff) from fun W A' B' c' d' h1 h2 => by
          have h := joined_ok W A' B' f2 (dg.take 4) c' d' h1 h2 (by have := Hf2l.out; have := Hdl.out; simp; unfold big; omega)
          rw [show (dg.take 4).length = 4 by simp [Hdl.out], ← hff] at h
          exact h)
        have Hj1 := Lib.hid (show ∀ (W : World) (A' B' : Option Addr) (c' d' : Nat), Bs All W A' [hi, lo] → Bs All W B' b → Calls Tryd.prog 55 #[.slice A' 2 c', .slice B' b.length d'] W (RetBs W f2) from fun W A' B' c' d' h1 h2 => by
          have h := joined_ok W A' B' [hi, lo] b c' d' h1 h2 (by simp; unfold big; omega)
          rw [← Hf2.out] at h
          exact h)
        clear hq hr
        clear hhi hlo hb hm hfl hbig hf2 hdg hff
        go_enter Tryd.func21, Tryd.ntmps21
        go_wp2_with (first
          | (go_at_call 53; refine (tapeMay_ok _ A t c).mono ?_; rintro e1 w1 ⟨rfl, hb1⟩; have hm := Hm.out; have H1 := H0.out.next hb1 H0.out.z; obtain ⟨g0, g1, g2, g3⟩ := box2 H1.p3; obtain ⟨j0, j1, j2, j3⟩ := box2 H1.p2; obtain ⟨i0a, i1a, _, _⟩ := box2 H1.p1; have hz1 := H1.z; have hzz1 : w.heap.size + 1 + 1 < w1.heap.size := (by omega))
          | (go_at_call 54; (with_reducible refine (commitBytes_any _ V x.1 x.2 n ?hx h80).mono ?_); (case hx => exact Hx.out.below wrR_stays H1.b); rw [hb']; rintro e2 w2 ⟨B, bc, rfl, hs2, hb2⟩; have H2 := H1.next hb2 hz1; have hz2 := H2.z; obtain ⟨g02, g12, _, _⟩ := box2 H2.p3; obtain ⟨g0, g1, g2, g3⟩ := box2 H2.p3; have hzz2 : w.heap.size + 1 + 1 < w2.heap.size := (by omega))
          | (go_at_call 55; (with_reducible refine (Hj1.out _ _ B 2 bc ?hx ?hy).mono ?_); (case hx => exact bs_block (g := w2.heap.size) (box_new w2 _ _) trivial); (case hy => exact hs2.bz.bbelow ((Below.refl _ _).alloc (Nat.le_refl _) _)); rintro e3 w3 ⟨F3, fc3, rfl, hs3, hb3⟩; have H3 := (H2.next ((Below.refl w2.heap.size w2).alloc (Nat.le_refl _) _) hz2).next hb3 (by simp; omega); have hz3 := H3.z)
          | (go_at_call 56; (with_reducible refine (digested_cap _ F3 f2 fc3 hs3.bz ?hn).mono ?_); (case hn => (have := Hf2l.out; omega)); rw [← Hdg.out]; rintro e4 w4 ⟨D, d, rfl, hd4, hs4, hb4⟩; have H4 := H3.next hb4 hz3; have hz4 := H4.z; have h4d : 4 ≤ d := (by have := Hdl.out; omega); have hs4' := hs4 (by rw [Hdl.out]; omega); obtain ⟨db, dof, rfl, _⟩ := hs4')
          | (go_at_call 55; (with_reducible refine (Hj.out _ F3 _ fc3 _ ?hx ?hy).mono ?_); (case hx => exact hs3.bz.bbelow hb4); (case hy => exact bs_topT (SL.bz hs4) 4); rintro e5 w5 ⟨F5, fc5, rfl, hs5, hb5⟩; have H5 := H4.next hb5 hz4; have hz5 := H5.z; obtain ⟨g05, g15, _, _⟩ := box2 H5.p3; obtain ⟨y0, y1, _, _⟩ := box2 H5.p1; have hzf5 : w.heap.size + 1 + 1 < w5.heap.size := (by omega); have hzx5 : w.heap.size < w5.heap.size := (by omega)))
        refine bodyPost_ret (v := .tuple #[.agg #[.slice none 0 0, .int .i64 0], .int .i64 11]) (by simp [results, Tryd.results21, go_sem, g05, g15, hzf5]) rfl ?_
        rw [Hv.out]
        exact ⟨none, 0, rfl, Nat.le_refl _, SL.nil, set2t H5.b (by omega)⟩
      · have Hv := Lib.hid (show appendS t x = ((t.1 ++ frameS b, t.2), 0) by unfold appendS; rw [if_neg (by simp [hm]), hb, if_neg (by simp), if_neg hbig])
        have Hfl := Lib.hid hfl
        have Hbig := Lib.hid hbig
        have H6 := Lib.hid h600
        obtain ⟨hi, hhi⟩ : ∃ hi, hi = UInt8.ofNat (b.length / 256) := ⟨_, rfl⟩
        obtain ⟨lo, hlo⟩ : ∃ lo, lo = UInt8.ofNat b.length := ⟨_, rfl⟩
        obtain ⟨q, hq⟩ : ∃ q, q = b.length / 256 := ⟨_, rfl⟩
        obtain ⟨r, hr⟩ : ∃ r, r = b.length % 256 := ⟨_, rfl⟩
        have t1 : (b.length : Int).tdiv 256 = (q : Int) := by rw [Int.tdiv_eq_ediv_of_nonneg (by omega)]; omega
        have t2 : (b.length : Int).tmod 256 = (r : Int) := by rw [Int.tmod_eq_emod_of_nonneg (by omega)]; omega
        have t3 : IntKind.i64.wrap (q : Int) = (q : Int) := IntWalk.i64_in _ (by omega)
        have t4 : IntKind.u8.wrap (q : Int) = (hi.toNat : Int) := by rw [hhi, ← hq, wrap_u8]
        have t5 : IntKind.u8.wrap (r : Int) = (lo.toNat : Int) := by rw [hlo, wrap_u8, hr, mod_ofNat]
        have Hl2 := Lib.hid (show len2 b = [hi, lo] ++ b by rw [hhi, hlo]; rfl)
        obtain ⟨f2, hf2⟩ : ∃ f2, f2 = len2 b := ⟨_, rfl⟩
        obtain ⟨dg, hdg⟩ : ∃ dg, dg = digS f2 := ⟨_, rfl⟩
        obtain ⟨ff, hff⟩ : ∃ ff, ff = f2 ++ dg.take 4 := ⟨_, rfl⟩
        have Hff := Lib.hid (show frameS b = ff by rw [hff, hdg, hf2]; rfl)
        have Hf2 := Lib.hid (show f2 = [hi, lo] ++ b from hf2.trans Hl2.out)
        have Hf2l := Lib.hid (show f2.length = 2 + b.length by rw [hf2, len2_len]; omega)
        have Hdl := Lib.hid (show dg.length = 32 by rw [hdg]; exact dig_len _)
        have Hffl := Lib.hid (show ff.length = f2.length + 4 by rw [hff, hdg]; simp [dig_len])
        have Hdg := Lib.hid hdg
        have Hfe := Lib.hid hff
        have hffz : ¬ (200000 : Int) < (t.1.length : Int) + (ff.length : Int) := by rw [Hff.out] at hbig; omega
        have hw64 : IntKind.i64.wrap ((t.1.length : Int) + (ff.length : Int)) = (t.1.length : Int) + (ff.length : Int) := IntWalk.i64_in _ (by have := Hffl.out; have := Hf2l.out; have := (mayS_iff t).1 hm; omega)
        have Htl := Lib.hid ((mayS_iff t).1 hm)
        have Hj := Lib.hid (show ∀ (W : World) (A' B' : Option Addr) (c' d' : Nat), Bs All W A' f2 → Bs All W B' (dg.take 4) → Calls Tryd.prog 55 #[.slice A' f2.length c', .slice B' 4 d'] W (RetBs W ff) from fun W A' B' c' d' h1 h2 => by
          have h := joined_ok W A' B' f2 (dg.take 4) c' d' h1 h2 (by have := Hf2l.out; have := Hdl.out; simp; unfold big; omega)
          rw [show (dg.take 4).length = 4 by simp [Hdl.out], ← hff] at h
          exact h)
        have Hj1 := Lib.hid (show ∀ (W : World) (A' B' : Option Addr) (c' d' : Nat), Bs All W A' [hi, lo] → Bs All W B' b → Calls Tryd.prog 55 #[.slice A' 2 c', .slice B' b.length d'] W (RetBs W f2) from fun W A' B' c' d' h1 h2 => by
          have h := joined_ok W A' B' [hi, lo] b c' d' h1 h2 (by simp; unfold big; omega)
          rw [← Hf2.out] at h
          exact h)
        clear hq hr
        clear hhi hlo hb hm hfl hbig hf2 hdg hff
        go_enter Tryd.func21, Tryd.ntmps21
        go_wp2_with (first
          | (go_at_call 53; refine (tapeMay_ok _ A t c).mono ?_; rintro e1 w1 ⟨rfl, hb1⟩; have hm := Hm.out; have H1 := H0.out.next hb1 H0.out.z; obtain ⟨g0, g1, g2, g3⟩ := box2 H1.p3; obtain ⟨j0, j1, j2, j3⟩ := box2 H1.p2; obtain ⟨i0a, i1a, _, _⟩ := box2 H1.p1; have hz1 := H1.z; have hzz1 : w.heap.size + 1 + 1 < w1.heap.size := (by omega))
          | (go_at_call 54; (with_reducible refine (commitBytes_any _ V x.1 x.2 n ?hx h80).mono ?_); (case hx => exact Hx.out.below wrR_stays H1.b); rw [hb']; rintro e2 w2 ⟨B, bc, rfl, hs2, hb2⟩; have H2 := H1.next hb2 hz1; have hz2 := H2.z; obtain ⟨g02, g12, _, _⟩ := box2 H2.p3; obtain ⟨g0, g1, g2, g3⟩ := box2 H2.p3; have hzz2 : w.heap.size + 1 + 1 < w2.heap.size := (by omega))
          | (go_at_call 55; (with_reducible refine (Hj1.out _ _ B 2 bc ?hx ?hy).mono ?_); (case hx => exact bs_block (g := w2.heap.size) (box_new w2 _ _) trivial); (case hy => exact hs2.bz.bbelow ((Below.refl _ _).alloc (Nat.le_refl _) _)); rintro e3 w3 ⟨F3, fc3, rfl, hs3, hb3⟩; have H3 := (H2.next ((Below.refl w2.heap.size w2).alloc (Nat.le_refl _) _) hz2).next hb3 (by simp; omega); have hz3 := H3.z)
          | (go_at_call 56; (with_reducible refine (digested_cap _ F3 f2 fc3 hs3.bz ?hn).mono ?_); (case hn => (have := Hf2l.out; omega)); rw [← Hdg.out]; rintro e4 w4 ⟨D, d, rfl, hd4, hs4, hb4⟩; have H4 := H3.next hb4 hz3; have hz4 := H4.z; have h4d : 4 ≤ d := (by have := Hdl.out; omega); have hs4' := hs4 (by rw [Hdl.out]; omega); obtain ⟨db, dof, rfl, _⟩ := hs4')
          | (go_at_call 55; (with_reducible refine (Hj.out _ F3 _ fc3 _ ?hx ?hy).mono ?_); (case hx => exact hs3.bz.bbelow hb4); (case hy => exact bs_topT (SL.bz hs4) 4); rintro e5 w5 ⟨F5, fc5, rfl, hs5, hb5⟩; have H5 := H4.next hb5 hz4; have hz5 := H5.z; obtain ⟨g05, g15, _, _⟩ := box2 H5.p3; obtain ⟨y0, y1, _, _⟩ := box2 H5.p1; have hzf5 : w.heap.size + 1 + 1 < w5.heap.size := (by omega); have hzx5 : w.heap.size < w5.heap.size := (by omega)))
        have hzx5' := hzx5
        go_region_held3 (fun w' => w'.cell? ⟨w.heap.size, 0, none⟩ = some (.slice A t.1.length c) ∧ w'.cell? ⟨w.heap.size, 1, none⟩ = some (.int .i64 t.2))
          (first
            | go_keep
            | exact ⟨(hb6.cell (p := ⟨w.heap.size, 0, none⟩) hzx5).trans y0, (hb6.cell (p := ⟨w.heap.size, 1, none⟩) hzx5).trans y1⟩
            | exact ⟨((((Same.refl (fun b => b = w.heap.size) w6).setCell (p := ⟨w.heap.size + 1 + 1, 0, none⟩) (show ¬ (w.heap.size + 1 + 1 = w.heap.size) from (by omega)) _).setCell (p := ⟨w.heap.size + 1 + 1, 1, none⟩) (show ¬ (w.heap.size + 1 + 1 = w.heap.size) from (by omega)) _).cell (p := ⟨w.heap.size, 0, none⟩) rfl (show w.heap.size < w6.heap.size from (by omega))).trans ((hb6.cell (p := ⟨w.heap.size, 0, none⟩) hzx5).trans y0), ((((Same.refl (fun b => b = w.heap.size) w6).setCell (p := ⟨w.heap.size + 1 + 1, 0, none⟩) (show ¬ (w.heap.size + 1 + 1 = w.heap.size) from (by omega)) _).setCell (p := ⟨w.heap.size + 1 + 1, 1, none⟩) (show ¬ (w.heap.size + 1 + 1 = w.heap.size) from (by omega)) _).cell (p := ⟨w.heap.size, 1, none⟩) rfl (show w.heap.size < w6.heap.size from (by omega))).trans ((hb6.cell (p := ⟨w.heap.size, 1, none⟩) hzx5).trans y1)⟩)
          ((go_at_call 55; (with_reducible refine (joined_cap _ A F5 t.1 ff c fc5 ?ha ?hb ?hn).mono ?_); (case ha => (first | exact Ha.out.bbelow H5.b | exact Ha.out.bbelow H5.b.drew)); (case hb => (refine hs5.bz.bsame ?_; repeat' (first | exact Same.refl _ _ | assumption | refine Same.drew ?_ | refine Same.drewN ?_ _ | refine Same.alloc ?_ _ | refine Same.setCell ?_ (fun hq => by simp only [From] at hq; first | omega | (simp at hq; done) | (simp at hq; omega)) _))); (case hn => (have := Hffl.out; have := Hf2l.out; have := Htl.out; unfold big; omega)); rintro e6 w6 ⟨T6, tc6, rfl, hcap6, hs6, hb6⟩; have H6 := (show ApAt w A V t x c n w6 from by first | exact H5.next hb6 hz5 | exact H5.drew.next hb6 hz5); obtain ⟨g06, g16, g26, g36⟩ := box2 H6.p3; have hzf6 : w.heap.size + 1 + 1 < w6.heap.size := (by have := H6.z; omega)))
        go_wp2
        refine bodyPost_ret (v := .tuple #[.agg #[.slice T6 (t.1.length + ff.length) tc6, .int .i64 t.2], .int .i64 0]) (by simp [results, Tryd.results21, go_sem, g06, g16, hzf6]) rfl ?_
        rw [Hv.out, Hff.out]
        exact ⟨T6, tc6, by rw [List.length_append], hcap6, SL.blo (m := w.heap.size) ((hs6.blo (m := w.heap.size + 1 + 1 + 1) (by first | omega | (simp; omega))).bsame (((Same.refl _ _).setCell (fun h => by simp only [From] at h; omega) _).setCell (fun h => by simp only [From] at h; omega) _)) (by omega), set2t H6.b (by omega)⟩
    · have Hv := Lib.hid (show appendS t x = (([], 0), be) by unfold appendS; rw [if_neg (by simp [hm]), hb, if_pos hz])
      have hbe : (be != 0) = true := by simpa using hz
      clear hb hm hz
      go_enter Tryd.func21, Tryd.ntmps21
      go_wp2_with (first
        | (go_at_call 53; refine (tapeMay_ok _ A t c).mono ?_; rintro e1 w1 ⟨rfl, hb1⟩; have hm := Hm.out; have H1 := H0.out.next hb1 H0.out.z; obtain ⟨g0, g1, g2, g3⟩ := box2 H1.p3; obtain ⟨j0, j1, j2, j3⟩ := box2 H1.p2; obtain ⟨i0a, i1a, _, _⟩ := box2 H1.p1; have hz1 := H1.z; have hzz1 : w.heap.size + 1 + 1 < w1.heap.size := (by omega))
        | (go_at_call 54; (with_reducible refine (commitBytes_any _ V x.1 x.2 n ?hx h80).mono ?_); (case hx => exact Hx.out.below wrR_stays H1.b); rw [hb']; rintro e2 w2 ⟨B, bc, rfl, hs2, hb2⟩; have H2 := H1.next hb2 hz1; have hz2 := H2.z; obtain ⟨g02, g12, _, _⟩ := box2 H2.p3; obtain ⟨g0, g1, g2, g3⟩ := box2 H2.p3; have hzz2 : w.heap.size + 1 + 1 < w2.heap.size := (by omega)))
      refine bodyPost_ret (v := .tuple #[.agg #[.slice none 0 0, .int .i64 0], .int .i64 be]) (by simp [results, Tryd.results21, go_sem, g0, g1, hzz2]) rfl ?_
      rw [Hv.out]
      exact ⟨none, 0, rfl, Nat.le_refl _, SL.nil, set2t H2.b (by omega)⟩
  · have Hv := Lib.hid (show appendS t x = (([], 0), 6) by unfold appendS; rw [if_pos hm])
    have Hm := Lib.hid hm
    clear hm
    go_enter Tryd.func21, Tryd.ntmps21
    go_wp2_with (go_at_call 53; refine (tapeMay_ok _ A t c).mono ?_; rintro e1 w1 ⟨rfl, hb1⟩; have hm := Hm.out; have H1 := H0.out.next hb1 H0.out.z; obtain ⟨g0, g1, g2, g3⟩ := box2 H1.p3; obtain ⟨j0, j1, j2, j3⟩ := box2 H1.p2; obtain ⟨i0a, i1a, _, _⟩ := box2 H1.p1; have hz1 := H1.z; have hzz1 : w.heap.size + 1 + 1 < w1.heap.size := (by omega))
    refine bodyPost_ret (v := .tuple #[.agg #[.slice none 0 0, .int .i64 0], .int .i64 6]) (by simp [results, Tryd.results21, go_sem, g0, g1, hzz1]) rfl ?_
    rw [Hv.out]
    exact ⟨none, 0, rfl, Nat.le_refl _, SL.nil, set2t H1.b (by omega)⟩
end Go.Proofs.YteacjkihjeiafaaDoor
