/- Walk: txn.Clash; the law TxnClashes. -/
import Derived.Test.YthhcdibimnifaaaClash
namespace Go.Proofs.Ythhcdibimnifaaa
open Go.RowKit
set_option linter.unusedVariables false
set_option linter.unusedSimpArgs false

set_option maxRecDepth 100000 in
set_option maxHeartbeats 4000000 in
theorem clash_ok (w : World) (A B : Option Addr) (t : Tx) (n m : Nat) (C : Option Addr) (l : List Cm) (cc : Nat) (ha : Ws All w A t.reads) (hb : Ws All w B t.writes) (hc : Cs All w C l) (hcn : t.reads.length ≤ n) (hcm : t.writes.length ≤ m) (hn : l.length ≤ big) :
    Calls Try.prog 67 #[.agg #[.int .i64 t.start, .slice A t.reads.length n, .slice B t.writes.length m], .slice C l.length cc] w (RetBI w (clashS t l)) := by
  have hnn : l.length ≤ 140737488355328 := hn
  have Ha := Lib.hid ha
  have Hb := Lib.hid hb
  have Hc := Lib.hid hc
  clear ha hb hc
  have Hb0 := Lib.hid (show Below w.heap.size w (w.alloc (.cells #[.int .i64 t.start, .slice A t.reads.length n, .slice B t.writes.length m] 79)) from (Below.refl _ _).alloc (Nat.le_refl _) _)
  by_cases h1 : txnFaultS t = 0
  · have b1 : (txnFaultS t != 0) = false := by simp [h1]
    have Hv := Lib.hid (show clashS t l = (l.any (clashC t), 0) by unfold clashS; rw [if_neg (by simpa using h1)])
    have h20 : t.reads.length ≤ 20 := by
      unfold txnFaultS at h1
      split at h1
      · cases h1
      · split at h1
        · cases h1
        · omega
    have hbig : t.reads.length ≤ big := by unfold big; omega
    clear h1
    go_enter Try.func67, Try.ntmps67
    go_wp2_with (go_at_call 64; refine (txnCheck_ok _ A B t n m (Ha.out.below wrR_stays Hb0.out) (Hb.out.below wrR_stays Hb0.out) hcn hcm).mono ?_; rintro e w1 ⟨rfl, hb1⟩; have hx1 := (hb1.block w.heap.size (by simp)).trans (box_new w _ _); have hbw1 := Hb0.out.next hb1 (by simp); have hz1 : w.heap.size < w1.heap.size := (by have := hb1.size; simp at this; omega))
    have Hx1 := Lib.hid hx1
    have Hbw1 := Lib.hid hbw1
    clear hb1 hx1 hbw1 b1
    go_loopw [18] (fun i wr => ∃ k : Nat, k ≤ l.length ∧ i = .int .i64 k ∧ (l.take k).any (clashC t) = false ∧ Below w1.heap.size w1 wr) (fun i _ => l.length - (intOf i).toNat)
    case atStart => exact ⟨0, by omega, rfl, rfl, Below.refl _ _⟩
    case round =>
      obtain ⟨k, hk, rfl, hno, hbel⟩ := hrel
      have Hbel := Lib.hid hbel
      have hbz := hbel.size
      have Hno := Lib.hid hno
      have Hbw := Lib.hid (Hbw1.out.next hbel (by omega))
      clear hbel hno
      by_cases hlt : k < l.length
      · obtain ⟨g, off, D, dn, rfl, _, hal, hc1, hc2, hs, h80⟩ := cms_at (Hc.out.below cmR_stays Hbw.out) hlt
        have Hnext := Lib.hid (fun h => anyT_next (q := clashC t) hlt Hno.out h)
        have Hhere := Lib.hid (fun h => anyT_here (q := clashC t) hlt h)
        have Hcl := Lib.hid (show clashC t l[k] = (decide (t.start < l[k].1) && l[k].2.any (hitW t.reads)) from rfl)
        have Hs := Lib.hid (hs.z wrR_stays)
        generalize hcg : clashC t l[k] = cg at *
        generalize l[k] = c at *
        obtain ⟨ct, cw⟩ := c
        dsimp only at *
        clear hs hcg
        obtain ⟨q0, q1, q2, _⟩ := box3 ((Hbel.out.block _ hz1).trans Hx1.out)
        have hzw : w.heap.size < wr.heap.size := by omega
        by_cases hd : t.start < ct
        · have d1 : decide (ct ≤ t.start) = false := by rw [decide_eq_false_iff_not]; omega
          have Hcl2 := Lib.hid (show cg = cw.any (hitW t.reads) by rw [Hcl.out]; simp [hd])
          have Hbc := Lib.hid (show Below wr.heap.size wr (wr.alloc (.cells #[.int .i64 ct, .slice D cw.length dn] 59)) from (Below.refl _ _).alloc (Nat.le_refl _) _)
          have hzc : (wr.alloc (.cells #[.int .i64 ct, .slice D cw.length dn] 59)).heap.size = wr.heap.size + 1 := by simp
          have Hzc := Lib.hid hzc
          clear hd hzc
          go_wp2
          clear q0 q1 q2 hc1 hc2 d1
          obtain ⟨wa, rfl⟩ : ∃ wa : World, wa = wr := ⟨_, rfl⟩
          generalize wa.alloc (.cells #[.int .i64 ct, .slice D cw.length dn] 59) = wc at *
          go_loopw [30] (fun i wr => ∃ j : Nat, j ≤ cw.length ∧ i = .int .i64 j ∧ (cw.take j).any (hitW t.reads) = false ∧ Below wc.heap.size wc wr) (fun i _ => cw.length - (intOf i).toNat)
          case atStart => exact ⟨0, by omega, rfl, rfl, Below.refl _ _⟩
          case round =>
            obtain ⟨j, hj, rfl, hno2, hbel2⟩ := hrel
            have Hbel2 := Lib.hid hbel2
            have hbz2 := hbel2.size
            have Hno2 := Lib.hid hno2
            have hzc := Hzc.out
            have Hba := Lib.hid (Hbc.out.next hbel2 (by omega))
            have Hbr := Lib.hid (Hbw.out.next Hba.out (by omega))
            obtain ⟨q0, q1, q2, _⟩ := box3 (((Hbel.out.next Hba.out (by omega)).block _ hz1).trans Hx1.out)
            clear hbel2 hno2
            by_cases hlt2 : j < cw.length
            · obtain ⟨g2, off2, A2, a2, B2, b2, C2, c2, hX2, _, hal2, hd1, hd2, hd3, hd4, ht1, ht2, ht3, _, _, _⟩ := wrs_at (Hs.out.below wrR_stays Hba.out) hlt2
              subst hX2
              have Hnext2 := Lib.hid (fun h => anyT_next (q := hitW t.reads) hlt2 Hno2.out h)
              have Hhere2 := Lib.hid (fun h => anyT_here (q := hitW t.reads) hlt2 h)
              have Hw := Lib.hid (show hitW t.reads cw[j] = t.reads.any (fun r => touchS r cw[j]) from rfl)
              generalize hwg : hitW t.reads cw[j] = wg at *
              generalize cw[j] = x at *
              have Ht1 := Lib.hid ht1.bz
              have Ht2 := Lib.hid ht2.bz
              have Ht3 := Lib.hid ht3.bz
              have hzr : w.heap.size < wr.heap.size := by omega
              have Hbx := Lib.hid (show Below wr.heap.size wr (wr.alloc (.cells #[.slice A2 x.name.length a2, .slice B2 x.key.length b2, .bool x.flag, .slice C2 x.value.length c2] 94)) from (Below.refl _ _).alloc (Nat.le_refl _) _)
              clear hwg ht1 ht2 ht3
              cases wg with
              | true =>
                have Hany := Lib.hid (show l.any (clashC t) = true from Hhere.out (by rw [Hcl2.out]; exact Hhere2.out rfl))
                go_wp2_with (go_at_call 123; refine (cla1_has _ A t.reads n wr.heap.size A2 B2 C2 x a2 b2 c2 ((Ha.out.below wrR_stays Hbr.out).below wrR_stays Hbx.out) hbig (Ht1.out.bbelow Hbx.out) (Ht2.out.bbelow Hbx.out) (Ht3.out.bbelow Hbx.out) (box_new wr _ _)).mono ?_; rintro e w2 ⟨rfl, hb2⟩; rw [← Hw.out])
                go_ret2
                rw [Hv.out, Hany.out]
                exact ⟨rfl, (Hbr.out.next Hbx.out (by omega)).next hb2 (by simp; omega)⟩
              | false =>
                have Hn2 := Lib.hid (Hnext2.out rfl)
                go_wp2_with (go_at_call 123; refine (cla1_has _ A t.reads n wr.heap.size A2 B2 C2 x a2 b2 c2 ((Ha.out.below wrR_stays Hbr.out).below wrR_stays Hbx.out) hbig (Ht1.out.bbelow Hbx.out) (Ht2.out.bbelow Hbx.out) (Ht3.out.bbelow Hbx.out) (box_new wr _ _)).mono ?_; rintro e w2 ⟨rfl, hb2⟩; rw [← Hw.out])
                go_roundw
                case rel => exact ⟨j + 1, by omega, by go_num, Hn2.out, (Hbel2.out.next Hbx.out (by omega)).next hb2 (by simp; omega)⟩
                case measure => simp [intOf]; omega
            · obtain rfl : j = cw.length := by omega
              have h2 := Hno2.out
              rw [List.take_length] at h2
              have Hn1 := Lib.hid (Hnext.out (by rw [Hcl2.out]; exact h2))
              clear h2
              go_wp2
              go_roundw
              case rel => exact ⟨k + 1, by omega, by go_num, Hn1.out, Hbel.out.next Hba.out (by omega)⟩
              case measure => simp [intOf]; omega
        · have d1 : decide (ct ≤ t.start) = true := by rw [decide_eq_true_eq]; omega
          have Hn1 := Lib.hid (Hnext.out (by rw [Hcl.out]; simp [hd]))
          clear hd
          go_wp2
          go_roundw
          case rel => exact ⟨k + 1, by omega, by go_num, Hn1.out, Hbel.out.alloc (by omega) _⟩
          case measure => simp [intOf]; omega
      · obtain rfl : k = l.length := by omega
        have h := Hno.out
        rw [List.take_length] at h
        have Hf := Lib.hid h
        clear h
        go_wp2
        go_ret2
        rw [Hv.out, Hf.out]
        exact ⟨rfl, Hbw.out⟩
  · have b1 : (txnFaultS t != 0) = true := by simpa using h1
    have Hv := Lib.hid (show clashS t l = (false, txnFaultS t) by unfold clashS; rw [if_pos h1])
    clear h1
    go_enter Try.func67, Try.ntmps67
    go_wp2_with (go_at_call 64; refine (txnCheck_ok _ A B t n m (Ha.out.below wrR_stays Hb0.out) (Hb.out.below wrR_stays Hb0.out) hcn hcm).mono ?_; rintro e w1 ⟨rfl, hb1⟩; have hbw1 := Hb0.out.next hb1 (by simp))
    go_ret2
    rw [Hv.out]
    exact ⟨rfl, hbw1⟩
set_option maxRecDepth 100000 in
set_option maxHeartbeats 1000000 in
theorem txnClashes_walk (w : World) {cl : List Value} {t : Tx} (h : TxR All w cl t) {C : Option Addr} {l : List Cm} {cc : Nat} (h' : Cs All w C l ∧ l.length * 32 ≤ 140737488355328) :
    Calls Try.prog 17 #[.agg cl.toArray, .slice C l.length cc] w (RetV w (.bool true)) := by
  obtain ⟨A, n, B, m, rfl, ha, hb, h1, h2, h3, h4⟩ := h
  obtain ⟨hc, hcl⟩ := h'
  have Ha := Lib.hid ha
  have Hb := Lib.hid hb
  have Hc := Lib.hid hc
  have hlb : l.length ≤ big := by unfold big; omega
  clear ha hb hc h3 h4
  have Hbox := Lib.hid (show ∀ W, Below (w.heap.size + 1) (w.alloc (.cells #[.int .i64 t.start, .slice A t.reads.length n, .slice B t.writes.length m] 79)) W → W.cell? ⟨w.heap.size, 0, none⟩ = some (.int .i64 t.start) ∧ W.cell? ⟨w.heap.size, 1, none⟩ = some (.slice A t.reads.length n) ∧ W.cell? ⟨w.heap.size, 2, none⟩ = some (.slice B t.writes.length m) ∧ Below w.heap.size w W ∧ w.heap.size + 1 ≤ W.heap.size from fun W hW => by
    obtain ⟨g0, g1, g2, _⟩ := box3 ((hW.block _ (by omega)).trans (box_new w _ _))
    exact ⟨g0, g1, g2, ((Below.refl w.heap.size w).alloc (Nat.le_refl _) _).trans (hW.mono (by omega)), by simpa using hW.size⟩)
  generalize hr : clashS t l = r
  obtain ⟨rb, ri⟩ := r
  have Hr := Lib.hid hr
  clear hr
  go_enter Try.func17, Try.ntmps17
  go_wp2_with (first
    | (go_at_call 63; refine (txnCopy_ok _ A B t n m (Ha.out.below wrR_stays ?_) (Hb.out.below wrR_stays ?_) h1 h2).mono ?_; (repeat' (first | exact Below.refl _ _ | assumption | refine Below.drew ?_ | refine below_drewN ?_ _ | refine Below.alloc ?_ (by first | exact Nat.le_refl _ | omega | (simp; done) | (simp; omega)) _)); (repeat' (first | exact Below.refl _ _ | assumption | refine Below.drew ?_ | refine below_drewN ?_ _ | refine Below.alloc ?_ (by first | exact Nat.le_refl _ | omega | (simp; done) | (simp; omega)) _)); rintro e w1 ⟨A1, n1, B1, m1, rfl, hk1, hk2, hs1, hs2, hb1'⟩; have hb1 : Below (w.heap.size + 1) (w.alloc (.cells #[.int .i64 t.start, .slice A t.reads.length n, .slice B t.writes.length m] 79)) w1 := hb1'.mono (by first | (simp; done) | omega | (simp; omega)); obtain ⟨g0, g1, g2, hw1, hz1⟩ := Hbox.out w1 hb1; have Hs1 := Lib.hid (hs1.z wrR_stays); have Hs2 := Lib.hid (hs2.z wrR_stays); clear hs1 hs2 hb1')
    | (go_at_call 58; refine (commits_ok _ C l cc (Hc.out.below cmR_stays hw1) hcl).mono ?_; rintro e w2 ⟨C2, c2, rfl, _, hs3, hb2⟩; have Hs3 := Lib.hid (hs3.z cmR_stays); have hb12 := hb1.next hb2 hz1; obtain ⟨g3, g4, g5, hw2, hz2⟩ := Hbox.out w2 hb12; clear hs3)
    | (go_at_call 67; refine (clash_ok _ A1 B1 t n1 m1 C2 l c2 (Hs1.out.below wrR_stays hb2) (Hs2.out.below wrR_stays hb2) Hs3.out hk1 hk2 hlb).mono ?_; rintro e w3 ⟨rfl, hb3⟩; rw [Hr.out]; have hb13 := hb12.next hb3 hz2; obtain ⟨g6, g7, g8, hw3, hz3⟩ := Hbox.out w3 hb13)
    | (go_at_call 68; refine (clashes_ok _ A B t n m C l cc (Ha.out.below wrR_stays hw3) (Hb.out.below wrR_stays hw3) (Hc.out.below cmR_stays hw3) hlb).mono ?_; rintro e w4 ⟨rfl, hb4⟩; rw [Hr.out]; have hw4 := hw3.next hb4 (by omega)))
  go_ret
  exact ⟨by simp, hw4⟩
end Go.Proofs.Ythhcdibimnifaaa
