/- Walk: txn.Check. -/
import Derived.Test.YthhcdibimnifaaaClo
namespace Go.Proofs.Ythhcdibimnifaaa
open Go.RowKit
set_option linter.unusedVariables false
set_option linter.unusedSimpArgs false

theorem placeAt_bad {fault : Wr → Int} {same : Wr → Wr → Bool} {l : List Wr} {k : Nat} (hk : k < l.length) (h : fault l[k] ≠ 0) : placeAt fault same l k = fault l[k] := by
  rw [placeAt_eq _ _ hk]
  unfold stepE
  rw [if_pos h]
theorem placeAt_any {fault : Wr → Int} {same : Wr → Wr → Bool} {l : List Wr} {k : Nat} (hk : k < l.length) (h : fault l[k] = 0) : placeAt fault same l k = if (l.take k).any (fun y => same y l[k]) then 3 else 0 := by
  rw [placeAt_eq _ _ hk]
  unfold stepE
  rw [if_neg (by simpa using h)]
theorem SL.first {α : Type} {size : Nat} {R : (Nat → Prop) → World → List Value → α → Prop} {S : Nat → Prop} {w : World} {A : Option Addr} {l : List α} (h : SL size R S w A l) (k : Nat) : SL size R S w A (l.take k) := by
  intro hl
  have hl' : 0 < l.length := by rw [List.length_take] at hl; omega
  obtain ⟨b, off, e, h0, hlt, hi⟩ := h hl'
  refine ⟨b, off, e, h0, hlt, fun i hil => ?_⟩
  have hil' : i < l.length := by rw [List.length_take] at hil; omega
  obtain ⟨cs, h1, h2, h3⟩ := hi i hil'
  exact ⟨cs, h1, h2, by rw [List.getElem_take]; exact h3⟩
set_option maxRecDepth 100000 in
set_option maxHeartbeats 4000000 in
theorem txnCheck_ok (w : World) (A B : Option Addr) (t : Tx) (n m : Nat) (ha : Ws All w A t.reads) (hb : Ws All w B t.writes) (hcn : t.reads.length ≤ n) (hcm : t.writes.length ≤ m) :
    Calls Try.prog 64 #[.agg #[.int .i64 t.start, .slice A t.reads.length n, .slice B t.writes.length m]] w (RetV w (.int .i64 (txnFaultS t))) := by
  have Ha := Lib.hid ha
  have Hb := Lib.hid hb
  have Hcn := Lib.hid hcn
  have Hcm := Lib.hid hcm
  clear ha hb hcn hcm
  by_cases h1 : 0 ≤ t.start ∧ t.start ≤ 1048576
  · have b1 : decide (t.start < 0) = false := by rw [decide_eq_false_iff_not]; omega
    have b1' : decide ((1048576 : Int) < t.start) = false := by rw [decide_eq_false_iff_not]; omega
    by_cases h2 : 20 < t.reads.length
    · have Hv := Lib.hid (show txnFaultS t = 1 by unfold txnFaultS; rw [if_neg (by simpa using h1), if_pos (.inl h2)])
      have b2 : decide ((20 : Int) < (t.reads.length : Int)) = true := by rw [decide_eq_true_eq]; omega
      clear h1
      go_enter Try.func64, Try.ntmps64
      go_wp2
      go_ret
      exact ⟨ret_int (by rw [Hv.out]), by repeat' (first | exact Below.refl _ _ | assumption | refine Below.drew ?_ | refine below_drewN ?_ _ | refine Below.setCell ?_ (by first | (simp; done) | omega | (simp; omega)) _ | refine Below.alloc ?_ (by first | exact Nat.le_refl _ | omega | (simp; done) | (simp; omega)) _)⟩
    · have b2 : decide ((20 : Int) < (t.reads.length : Int)) = false := by rw [decide_eq_false_iff_not]; omega
      by_cases h3 : 10 < t.writes.length
      · have Hv := Lib.hid (show txnFaultS t = 1 by unfold txnFaultS; rw [if_neg (by simpa using h1), if_pos (.inr h3)])
        have b3 : decide ((10 : Int) < (t.writes.length : Int)) = true := by rw [decide_eq_true_eq]; omega
        clear h1
        go_enter Try.func64, Try.ntmps64
        go_wp2
        go_ret
        exact ⟨ret_int (by rw [Hv.out]), by repeat' (first | exact Below.refl _ _ | assumption | refine Below.drew ?_ | refine below_drewN ?_ _ | refine Below.setCell ?_ (by first | (simp; done) | omega | (simp; omega)) _ | refine Below.alloc ?_ (by first | exact Nat.le_refl _ | omega | (simp; done) | (simp; omega)) _)⟩
      · have b3 : decide ((10 : Int) < (t.writes.length : Int)) = false := by rw [decide_eq_false_iff_not]; omega
        have Hbad := Lib.hid (show ∀ e : Int, e ≠ 0 → readsFaultS t.reads = e → txnFaultS t = e from fun e h4 h5 => by unfold txnFaultS; rw [if_neg (by simpa using h1), if_neg (by omega), if_pos (by rw [h5]; exact h4), h5])
        have Hgood := Lib.hid (show readsFaultS t.reads = 0 → txnFaultS t = writesFaultS t.writes from fun h5 => by unfold txnFaultS; rw [if_neg (by simpa using h1), if_neg (by omega), if_neg (by rw [h5]; decide)])
        have Hbx := Lib.hid (box_new w #[.int .i64 t.start, .slice A t.reads.length n, .slice B t.writes.length m] 79)
        have Hb0 := Lib.hid (show Below w.heap.size w (w.alloc (.cells #[.int .i64 t.start, .slice A t.reads.length n, .slice B t.writes.length m] 79)) from (Below.refl _ _).alloc (Nat.le_refl _) _)
        have Hz0 := Lib.hid (show w.heap.size < (w.alloc (.cells #[.int .i64 t.start, .slice A t.reads.length n, .slice B t.writes.length m] 79)).heap.size by simp)
        have h20 : t.reads.length ≤ 20 := by omega
        have h10 : t.writes.length ≤ 10 := by omega
        clear h1
        go_enter Try.func64, Try.ntmps64
        go_wp2
        clear b1 b2 b3 b1'
        generalize (w.alloc (.cells #[.int .i64 t.start, .slice A t.reads.length n, .slice B t.writes.length m] 79)) = w0 at *
        go_loopw [30] (fun i wr => ∃ k : Nat, k ≤ t.reads.length ∧ i = .int .i64 k ∧ firstBad (placeAt readFaultS sameRd t.reads) (t.reads.length - k) k = readsFaultS t.reads ∧ Below w0.heap.size w0 wr) (fun i _ => t.reads.length - (intOf i).toNat)
        case atStart => exact ⟨0, by omega, rfl, rfl, Below.refl _ _⟩
        case round =>
          obtain ⟨k, hk, rfl, hval, hbel⟩ := hrel
          have Hbel := Lib.hid hbel
          have Hval := Lib.hid hval
          have hbz := hbel.size
          have hz0 := Hz0.out
          have Hbxr := Lib.hid ((hbel.block _ Hz0.out).trans Hbx.out)
          have Hb1 := Lib.hid (Hb0.out.next hbel (by omega))
          clear hbel hval
          by_cases hlt : k < t.reads.length
          · have Hstep := Lib.hid (firstBad_at (placeAt readFaultS sameRd t.reads) hlt)
            obtain ⟨g, off, A1, a1, B1, b1, C1, c1, hX, _, hal, hc1, hc2, hc3, hc4, hs1, hs2, hs3, hb1, hb2, hb3⟩ := wrs_at (Ha.out.below wrR_stays Hb1.out) hlt
            have Hs1 := Lib.hid hs1.bz
            have Hs2 := Lib.hid hs2.bz
            have Hs3 := Lib.hid hs3.bz
            have Hxb := Lib.hid (show ∀ W, Below (wr.heap.size + 1) (wr.alloc (.cells #[.slice A1 t.reads[k].name.length a1, .slice B1 t.reads[k].key.length b1, .bool t.reads[k].flag, .slice C1 t.reads[k].value.length c1] 88)) W → W.heap[wr.heap.size]? = some (.cells #[.slice A1 t.reads[k].name.length a1, .slice B1 t.reads[k].key.length b1, .bool t.reads[k].flag, .slice C1 t.reads[k].value.length c1] 88 (0, 0)) ∧ Below wr.heap.size wr W ∧ wr.heap.size + 1 ≤ W.heap.size from fun W hW =>
              ⟨(hW.block _ (by omega)).trans (box_new wr _ _), ((Below.refl wr.heap.size wr).alloc (Nat.le_refl _) _).trans (hW.mono (by omega)), by simpa using hW.size⟩)
            subst hX
            clear hs1 hs2 hs3
            by_cases hf : readFaultS t.reads[k] = 0
            · have d1 : (readFaultS t.reads[k] != 0) = false := by simp [hf]
              have Hpl := Lib.hid (placeAt_any (same := sameRd) hlt hf)
              have hlen : (t.reads.take k).length = k := by rw [List.length_take]; omega
              have Hhas := Lib.hid (fun (W : World) (hW : Below w.heap.size w W) (g2 : Nat) (x : Wr) (h1 : Bs All W A1 x.name) (h2 : Bs All W B1 x.key) (h3 : Bs All W C1 x.value) (hg) => chk1_has W (some ⟨g, off, none⟩) (t.reads.take k) n g2 A1 B1 C1 x a1 b1 c1 ((Ha.out.below wrR_stays hW).first k) (by rw [hlen]; unfold big; omega) h1 h2 h3 hg)
              rw [hlen] at Hhas
              generalize t.reads[k] = x at *
              generalize hbb : (t.reads.take k).any (fun y => sameRd y x) = bb at *
              have Hbb := Lib.hid hbb
              clear hf hlen hbb
              have hkc : (k : Int) ≤ (n : Int) := by have := Hcn.out; omega
              have hk0 : (0 : Int) ≤ (k : Int) := by omega
              cases bb with
              | true =>
                go_wp2_with (first
                  | (go_at_call 122; refine (shape_ok _ A1 B1 C1 x a1 b1 c1).mono ?_; rintro e w1 ⟨rfl, hbw1⟩; have hk1 := hbw1.mono (show wr.heap.size + 1 ≤ (wr.alloc (.cells #[.slice A1 x.name.length a1, .slice B1 x.key.length b1, .bool x.flag, .slice C1 x.value.length c1] 88)).heap.size by simp); obtain ⟨hx1, hbw2, hz1⟩ := Hxb.out w1 hk1; have Hx1 := Lib.hid hx1; clear hx1 hbw1; obtain ⟨g0, g1, g2, _⟩ := box3 ((hbw2.block _ (by omega)).trans Hbxr.out))
                  | (go_at_call 123; refine (Hhas.out _ (Hb1.out.next hbw2 (by omega)) wr.heap.size x (Hs1.out.bbelow hbw2) (Hs2.out.bbelow hbw2) (Hs3.out.bbelow hbw2) Hx1.out).mono ?_; rintro e w2 ⟨rfl, hb2⟩; have hbw3 := hbw2.next hb2 (by omega); rw [Hbb.out]))
                go_ret
                exact ⟨ret_int (Eq.symm (Hbad.out 3 (by decide) (by rw [← Hval.out, Hstep.out, if_pos (by rw [Hpl.out]; decide), Hpl.out]; rfl))), Hb1.out.next hbw3 (by omega)⟩
              | false =>
                go_wp2_with (first
                  | (go_at_call 122; refine (shape_ok _ A1 B1 C1 x a1 b1 c1).mono ?_; rintro e w1 ⟨rfl, hbw1⟩; have hk1 := hbw1.mono (show wr.heap.size + 1 ≤ (wr.alloc (.cells #[.slice A1 x.name.length a1, .slice B1 x.key.length b1, .bool x.flag, .slice C1 x.value.length c1] 88)).heap.size by simp); obtain ⟨hx1, hbw2, hz1⟩ := Hxb.out w1 hk1; have Hx1 := Lib.hid hx1; clear hx1 hbw1; obtain ⟨g0, g1, g2, _⟩ := box3 ((hbw2.block _ (by omega)).trans Hbxr.out))
                  | (go_at_call 123; refine (Hhas.out _ (Hb1.out.next hbw2 (by omega)) wr.heap.size x (Hs1.out.bbelow hbw2) (Hs2.out.bbelow hbw2) (Hs3.out.bbelow hbw2) Hx1.out).mono ?_; rintro e w2 ⟨rfl, hb2⟩; have hbw3 := hbw2.next hb2 (by omega); rw [Hbb.out]))
                go_roundw
                case rel => exact ⟨k + 1, by omega, by go_num, by rw [← Hval.out, Hstep.out, if_neg (by rw [Hpl.out]; decide)], Hbel.out.next hbw3 (by omega)⟩
                case measure => simp [intOf]; omega
            · have d1 : (readFaultS t.reads[k] != 0) = true := by simpa using hf
              have Hpl := Lib.hid (placeAt_bad (same := sameRd) hlt hf)
              have Hf := Lib.hid hf
              generalize t.reads[k] = x at *
              clear hf
              go_wp2_with (go_at_call 122; refine (shape_ok _ A1 B1 C1 x a1 b1 c1).mono ?_; rintro e w1 ⟨rfl, hbw1⟩; have hk1 := hbw1.mono (show wr.heap.size + 1 ≤ (wr.alloc (.cells #[.slice A1 x.name.length a1, .slice B1 x.key.length b1, .bool x.flag, .slice C1 x.value.length c1] 88)).heap.size by simp); obtain ⟨hx1, hbw2, hz1⟩ := Hxb.out w1 hk1; have Hx1 := Lib.hid hx1; clear hx1 hbw1; obtain ⟨g0, g1, g2, _⟩ := box3 ((hbw2.block _ (by omega)).trans Hbxr.out))
              go_ret
              exact ⟨ret_int (Eq.symm (Hbad.out _ Hf.out (by rw [← Hval.out, Hstep.out, if_pos (by rw [Hpl.out]; exact Hf.out), Hpl.out]))), Hb1.out.next hbw2 (by omega)⟩
          · obtain rfl : k = t.reads.length := by omega
            have hfin := Hval.out
            rw [Nat.sub_self] at hfin
            have Hfin := Lib.hid (show readsFaultS t.reads = 0 from hfin.symm)
            clear hfin
            obtain ⟨g0, g1, g2, _⟩ := box3 Hbxr.out
            go_wp2
            have Hgd := Lib.hid (Hgood.out Hfin.out)
            have Hbst := Lib.hid Hbel.out
            clear Hval Hfin Hbxr hbz hz0 Hb1 g0 g1 g2 hlt hk Hbel
            obtain ⟨wn, rfl⟩ : ∃ wn : World, wn = wr := ⟨_, rfl⟩
            go_loopw [50] (fun i wr => ∃ k : Nat, k ≤ t.writes.length ∧ i = .int .i64 k ∧ firstBad (placeAt writeFaultS samePl t.writes) (t.writes.length - k) k = writesFaultS t.writes ∧ Below w0.heap.size w0 wr) (fun i _ => t.writes.length - (intOf i).toNat)
            case atStart => exact ⟨0, by omega, rfl, rfl, Hbst.out⟩
            case round =>
              obtain ⟨k, hk, rfl, hval, hbel⟩ := hrel
              have Hbel := Lib.hid hbel
              have Hval := Lib.hid hval
              have hbz := hbel.size
              have hz0 := Hz0.out
              have Hbxr := Lib.hid ((hbel.block _ Hz0.out).trans Hbx.out)
              have Hb1 := Lib.hid (Hb0.out.next hbel (by omega))
              clear hbel hval
              by_cases hlt : k < t.writes.length
              · have Hstep := Lib.hid (firstBad_at (placeAt writeFaultS samePl t.writes) hlt)
                obtain ⟨g, off, A1, a1, B1, b1, C1, c1, hX, _, hal, hc1, hc2, hc3, hc4, hs1, hs2, hs3, hb1, hb2, hb3⟩ := wrs_at (Hb.out.below wrR_stays Hb1.out) hlt
                have Hs1 := Lib.hid hs1.bz
                have Hs2 := Lib.hid hs2.bz
                have Hs3 := Lib.hid hs3.bz
                have Hxb := Lib.hid (show ∀ W, Below (wr.heap.size + 1) (wr.alloc (.cells #[.slice A1 t.writes[k].name.length a1, .slice B1 t.writes[k].key.length b1, .bool t.writes[k].flag, .slice C1 t.writes[k].value.length c1] 94)) W → W.heap[wr.heap.size]? = some (.cells #[.slice A1 t.writes[k].name.length a1, .slice B1 t.writes[k].key.length b1, .bool t.writes[k].flag, .slice C1 t.writes[k].value.length c1] 94 (0, 0)) ∧ Below wr.heap.size wr W ∧ wr.heap.size + 1 ≤ W.heap.size from fun W hW =>
                  ⟨(hW.block _ (by omega)).trans (box_new wr _ _), ((Below.refl wr.heap.size wr).alloc (Nat.le_refl _) _).trans (hW.mono (by omega)), by simpa using hW.size⟩)
                subst hX
                clear hs1 hs2 hs3
                by_cases hf : writeFaultS t.writes[k] = 0
                · have d1 : (writeFaultS t.writes[k] != 0) = false := by simp [hf]
                  have Hpl := Lib.hid (placeAt_any (same := samePl) hlt hf)
                  have hlen : (t.writes.take k).length = k := by rw [List.length_take]; omega
                  have Hhas := Lib.hid (fun (W : World) (hW : Below w.heap.size w W) (g2 : Nat) (x : Wr) (h1 : Bs All W A1 x.name) (h2 : Bs All W B1 x.key) (h3 : Bs All W C1 x.value) (hg) => chk2_has W (some ⟨g, off, none⟩) (t.writes.take k) m g2 A1 B1 C1 x a1 b1 c1 ((Hb.out.below wrR_stays hW).first k) (by rw [hlen]; unfold big; omega) h1 h2 h3 hg)
                  rw [hlen] at Hhas
                  generalize t.writes[k] = x at *
                  generalize hbb : (t.writes.take k).any (fun y => samePl y x) = bb at *
                  have Hbb := Lib.hid hbb
                  clear hf hlen hbb
                  have hkc : (k : Int) ≤ (m : Int) := by have := Hcm.out; omega
                  have hk0 : (0 : Int) ≤ (k : Int) := by omega
                  cases bb with
                  | true =>
                    go_wp2_with (first
                      | (go_at_call 126; refine (txnWriteOne_ok _ A1 B1 C1 x a1 b1 c1 (Hs1.out.bbelow ((Below.refl _ _).alloc (Nat.le_refl _) _)) (Hs2.out.bbelow ((Below.refl _ _).alloc (Nat.le_refl _) _)) (Hs3.out.bbelow ((Below.refl _ _).alloc (Nat.le_refl _) _)) hb1 hb2 hb3).mono ?_; rintro e w1 ⟨rfl, hbw1⟩; have hk1 := hbw1.mono (show wr.heap.size + 1 ≤ (wr.alloc (.cells #[.slice A1 x.name.length a1, .slice B1 x.key.length b1, .bool x.flag, .slice C1 x.value.length c1] 94)).heap.size by simp); obtain ⟨hx1, hbw2, hz1⟩ := Hxb.out w1 hk1; have Hx1 := Lib.hid hx1; clear hx1 hbw1; obtain ⟨g0, g1, g2, _⟩ := box3 ((hbw2.block _ (by omega)).trans Hbxr.out))
                      | (go_at_call 127; refine (Hhas.out _ (Hb1.out.next hbw2 (by omega)) wr.heap.size x (Hs1.out.bbelow hbw2) (Hs2.out.bbelow hbw2) (Hs3.out.bbelow hbw2) Hx1.out).mono ?_; rintro e w2 ⟨rfl, hb2⟩; have hbw3 := hbw2.next hb2 (by omega); rw [Hbb.out]))
                    go_ret
                    exact ⟨ret_int (by rw [Hgd.out, ← Hval.out, Hstep.out, if_pos (by rw [Hpl.out]; decide), Hpl.out]; rfl), Hb1.out.next hbw3 (by omega)⟩
                  | false =>
                    go_wp2_with (first
                      | (go_at_call 126; refine (txnWriteOne_ok _ A1 B1 C1 x a1 b1 c1 (Hs1.out.bbelow ((Below.refl _ _).alloc (Nat.le_refl _) _)) (Hs2.out.bbelow ((Below.refl _ _).alloc (Nat.le_refl _) _)) (Hs3.out.bbelow ((Below.refl _ _).alloc (Nat.le_refl _) _)) hb1 hb2 hb3).mono ?_; rintro e w1 ⟨rfl, hbw1⟩; have hk1 := hbw1.mono (show wr.heap.size + 1 ≤ (wr.alloc (.cells #[.slice A1 x.name.length a1, .slice B1 x.key.length b1, .bool x.flag, .slice C1 x.value.length c1] 94)).heap.size by simp); obtain ⟨hx1, hbw2, hz1⟩ := Hxb.out w1 hk1; have Hx1 := Lib.hid hx1; clear hx1 hbw1; obtain ⟨g0, g1, g2, _⟩ := box3 ((hbw2.block _ (by omega)).trans Hbxr.out))
                      | (go_at_call 127; refine (Hhas.out _ (Hb1.out.next hbw2 (by omega)) wr.heap.size x (Hs1.out.bbelow hbw2) (Hs2.out.bbelow hbw2) (Hs3.out.bbelow hbw2) Hx1.out).mono ?_; rintro e w2 ⟨rfl, hb2⟩; have hbw3 := hbw2.next hb2 (by omega); rw [Hbb.out]))
                    go_roundw
                    case rel => exact ⟨k + 1, by omega, by go_num, by rw [← Hval.out, Hstep.out, if_neg (by rw [Hpl.out]; decide)], Hbel.out.next hbw3 (by omega)⟩
                    case measure => simp [intOf]; omega
                · have d1 : (writeFaultS t.writes[k] != 0) = true := by simpa using hf
                  have Hpl := Lib.hid (placeAt_bad (same := samePl) hlt hf)
                  have Hf := Lib.hid hf
                  generalize t.writes[k] = x at *
                  clear hf
                  go_wp2_with (go_at_call 126; refine (txnWriteOne_ok _ A1 B1 C1 x a1 b1 c1 (Hs1.out.bbelow ((Below.refl _ _).alloc (Nat.le_refl _) _)) (Hs2.out.bbelow ((Below.refl _ _).alloc (Nat.le_refl _) _)) (Hs3.out.bbelow ((Below.refl _ _).alloc (Nat.le_refl _) _)) hb1 hb2 hb3).mono ?_; rintro e w1 ⟨rfl, hbw1⟩; have hk1 := hbw1.mono (show wr.heap.size + 1 ≤ (wr.alloc (.cells #[.slice A1 x.name.length a1, .slice B1 x.key.length b1, .bool x.flag, .slice C1 x.value.length c1] 94)).heap.size by simp); obtain ⟨hx1, hbw2, hz1⟩ := Hxb.out w1 hk1; have Hx1 := Lib.hid hx1; clear hx1 hbw1; obtain ⟨g0, g1, g2, _⟩ := box3 ((hbw2.block _ (by omega)).trans Hbxr.out))
                  go_ret
                  exact ⟨ret_int (by rw [Hgd.out, ← Hval.out, Hstep.out, if_pos (by rw [Hpl.out]; exact Hf.out), Hpl.out]), Hb1.out.next hbw2 (by omega)⟩
              · obtain rfl : k = t.writes.length := by omega
                have hfin := Hval.out
                rw [Nat.sub_self] at hfin
                have Hfin := Lib.hid (show writesFaultS t.writes = 0 from hfin.symm)
                clear hfin
                obtain ⟨g0, g1, g2, _⟩ := box3 Hbxr.out
                go_wp2
                go_ret
                exact ⟨ret_int (by rw [Hgd.out, Hfin.out]), Hb1.out⟩
  · have Hv := Lib.hid (show txnFaultS t = 2 by unfold txnFaultS; rw [if_pos h1])
    by_cases h3 : t.start < 0
    · have b1 : decide (t.start < 0) = true := by rw [decide_eq_true_eq]; exact h3
      clear h1 h3
      go_enter Try.func64, Try.ntmps64
      go_wp2
      go_ret
      exact ⟨ret_int (by rw [Hv.out]), by repeat' (first | exact Below.refl _ _ | assumption | refine Below.drew ?_ | refine below_drewN ?_ _ | refine Below.setCell ?_ (by first | (simp; done) | omega | (simp; omega)) _ | refine Below.alloc ?_ (by first | exact Nat.le_refl _ | omega | (simp; done) | (simp; omega)) _)⟩
    · have b1 : decide (t.start < 0) = false := by rw [decide_eq_false_iff_not]; exact h3
      have b1' : decide ((1048576 : Int) < t.start) = true := by rw [decide_eq_true_eq]; omega
      clear h1 h3
      go_enter Try.func64, Try.ntmps64
      go_wp2
      go_ret
      exact ⟨ret_int (by rw [Hv.out]), by repeat' (first | exact Below.refl _ _ | assumption | refine Below.drew ?_ | refine below_drewN ?_ _ | refine Below.setCell ?_ (by first | (simp; done) | omega | (simp; omega)) _ | refine Below.alloc ?_ (by first | exact Nat.le_refl _ | omega | (simp; done) | (simp; omega)) _)⟩
end Go.Proofs.Ythhcdibimnifaaa
