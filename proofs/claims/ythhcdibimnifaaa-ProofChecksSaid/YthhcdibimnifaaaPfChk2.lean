/- Walk: proof.Check of a proof with steps. -/
import Derived.Test.YthhcdibimnifaaaPfChk0
namespace Go.Proofs.Ythhcdibimnifaaa
open Go.RowKit
set_option linter.unusedVariables false
set_option linter.unusedSimpArgs false

set_option maxRecDepth 100000 in
set_option maxHeartbeats 8000000 in
theorem proofCheck_good (w : World) (D : Option Addr) (k : List UInt8) (dc : Nat) (A K V : Option Addr) (p : Pf) (n a b : Nat) (hk : Bs All w D k) (ha : Sts All w A p.steps) (hK : Bs All w K p.pair.1) (hV : Bs All w V p.pair.2) (hst : p.steps.length * 40 ≤ 140737488355328) (hl1 : p.pair.1.length ≤ big) (hl2 : p.pair.2.length ≤ big) (hkf : keyFault k = 0) (he' : p.empty = false) (hp : pairFaultS p.pair = 0) :
    Calls Try.prog 80 #[.slice D k.length dc, .agg #[.bool false, .slice A p.steps.length n, .slice K p.pair.1.length a, .slice V p.pair.2.length b]] w (RetV w (.int .i64 (mayFault k p))) := by
  have Hk := Lib.hid hk
  have Ha := Lib.hid ha
  have HK := Lib.hid hK
  have HV := Lib.hid hV
  clear hk ha hK hV
  have Hkf := Lib.hid hkf
  clear hkf
  have Hpk := Lib.hid (pairFault_key hp)
  have Hpf := Lib.hid hp
  have Hv := Lib.hid (show mayFault k p = stepsFault k p.pair.1 p.steps by unfold mayFault; rw [if_neg (by simp [he']), if_neg (by simpa using hp)])
  have Hbox := Lib.hid (show ∀ W, Below (w.heap.size + 1) (w.alloc (.cells #[.bool false, .slice A p.steps.length n, .slice K p.pair.1.length a, .slice V p.pair.2.length b] 105)) W → W.cell? ⟨w.heap.size, 1, none⟩ = some (.slice A p.steps.length n) ∧ W.cell? ⟨w.heap.size, 2, none⟩ = some (.slice K p.pair.1.length a) ∧ Below w.heap.size w W ∧ w.heap.size + 1 ≤ W.heap.size from fun W hW => by
    obtain ⟨g0, g1, g2, g3, _⟩ := box4p ((hW.block _ (by omega)).trans (box_new w _ _))
    exact ⟨g1, g2, ((Below.refl w.heap.size w).alloc (Nat.le_refl _) _).trans (hW.mono (by omega)), by simpa using hW.size⟩)
  clear hp
  go_enter Try.func80, Try.ntmps80
  go_wp2_with (first
    | (go_at_call 84; refine (pathCheck_ok _ D k dc).mono ?_; rintro e w1 ⟨rfl, rfl⟩; rw [Hkf.out])
    | (go_at_call 83; (with_reducible refine (treeCheckOne_ok _ _ 39 K V p.pair a b ?hh ?hx ?hy hl1 hl2).mono ?_); (case hh => (have h := box_new (w.alloc (.cells #[.bool false, .slice A p.steps.length n, .slice K p.pair.1.length a, .slice V p.pair.2.length b] 105)) #[.slice K p.pair.1.length a, .slice V p.pair.2.length b] 39; simpa using h)); (case hx => (refine HK.out.bbelow ?_; repeat' (first | exact Below.refl _ _ | assumption | refine Below.drew ?_ | refine below_drewN ?_ _ | refine Below.alloc ?_ (by first | exact Nat.le_refl _ | omega | (simp; done) | (simp; omega)) _))); (case hy => (refine HV.out.bbelow ?_; repeat' (first | exact Below.refl _ _ | assumption | refine Below.drew ?_ | refine below_drewN ?_ _ | refine Below.alloc ?_ (by first | exact Nat.le_refl _ | omega | (simp; done) | (simp; omega)) _))); rintro e w2 ⟨rfl, hb2'⟩; rw [Hpf.out]; have hb2 : Below (w.heap.size + 1) (w.alloc (.cells #[.bool false, .slice A p.steps.length n, .slice K p.pair.1.length a, .slice V p.pair.2.length b] 105)) w2 := (((Below.refl _ _).alloc (by simp) _).trans (hb2'.mono (by simp))); obtain ⟨g1, g2, hw2, hz2⟩ := Hbox.out w2 hb2; clear hb2'))
  have Hb2 := Lib.hid hb2
  clear hb2 hw2 g1 g2
  go_loopw [6, 38] (fun last i wr => ∃ j : Nat, j ≤ p.steps.length ∧ i = .int .i64 j ∧ last = .int .i64 (prevBit p.steps j) ∧ firstBad (stepAt k p.pair.1 p.steps) (p.steps.length - j) j = stepsFault k p.pair.1 p.steps ∧ Below w2.heap.size w2 wr) (fun _ i _ => p.steps.length - (intOf i).toNat)
  case atStart => exact ⟨0, by omega, rfl, rfl, rfl, Below.refl _ _⟩
  case round =>
    obtain ⟨j, hj, rfl, rfl, hval, hbel⟩ := hrel
    have Hbel := Lib.hid hbel
    have Hval := Lib.hid hval
    have hzz := hbel.size
    obtain ⟨g1, g2, hb1, hz1⟩ := Hbox.out wr (Hb2.out.next hbel (by omega))
    have Hb1 := Lib.hid hb1
    have Hbr := Lib.hid (Hb2.out.next hbel (by omega))
    clear hbel hval hb1
    by_cases hlt : j < p.steps.length
    · have Hstep := Lib.hid (firstBad_at (stepAt k p.pair.1 p.steps) hlt)
      have Heq := Lib.hid (stepAt_eq k p.pair.1 hlt)
      obtain ⟨g, off, B, c, hX, _, hal, hc1, hc2, hc3, _, _⟩ := sts_at (Ha.out.below stR_stays Hb1.out) hlt
      have Hbad0 := Lib.hid (show stepBad k p.pair.1 (prevBit p.steps j) p.steps[j] = true → mayFault k p = 4 from fun h => by rw [Hv.out, ← Hval.out, Hstep.out, Heq.out, if_pos h]; rfl)
      have Hgood0 := Lib.hid (show stepBad k p.pair.1 (prevBit p.steps j) p.steps[j] = false → firstBad (stepAt k p.pair.1 p.steps) (p.steps.length - (j + 1)) (j + 1) = stepsFault k p.pair.1 p.steps from fun h => by rw [← Hval.out, Hstep.out, Heq.out, if_neg (by rw [h]; decide)])
      have Hpb := Lib.hid (prevBit_succ hlt)
      clear Hstep Heq Hval
      generalize prevBit p.steps j = yb at *
      generalize p.steps[j] = x at *
      obtain ⟨xb, xr, xo⟩ := x
      dsimp only at hc1 hc2 hc3 Hbad0 Hgood0 Hpb
      have Hbad := Lib.hid Hbad0.out
      have Hgood := Lib.hid Hgood0.out
      subst hX
      clear Hbad0 Hgood0
      have Hx := Lib.hid (show ∀ W, Below (wr.heap.size + 1) (wr.alloc (.cells #[.int .i64 xb, .bool xr, .slice B xo.length c] 149)) W → W.cell? ⟨wr.heap.size, 0, none⟩ = some (.int .i64 xb) ∧ W.cell? ⟨wr.heap.size, 1, none⟩ = some (.bool xr) ∧ W.cell? ⟨wr.heap.size, 2, none⟩ = some (.slice B xo.length c) ∧ Below wr.heap.size wr W ∧ wr.heap.size + 1 ≤ W.heap.size ∧ W.cell? ⟨w.heap.size, 2, none⟩ = some (.slice K p.pair.1.length a) ∧ Below w.heap.size w W from fun W hW => by
        obtain ⟨q0, q1, q2, _⟩ := box3p ((hW.block _ (by omega)).trans (box_new wr _ _))
        have hwW := ((Below.refl wr.heap.size wr).alloc (Nat.le_refl _) _).trans (hW.mono (by omega))
        have hbx := Hbox.out W (Hbr.out.next hwW (by omega))
        exact ⟨q0, q1, q2, hwW, by simpa using hW.size, hbx.2.1, hbx.2.2.1⟩)
      rcases Bool.eq_false_or_eq_true (decide (0 ≤ xb) && decide (xb ≤ 144)) with hr | hr
      · have hx0 : 0 ≤ xb ∧ xb ≤ 144 := by simpa using hr
        obtain ⟨xn, rfl⟩ : ∃ n : Nat, xb = n := ⟨xb.toNat, by omega⟩
        have HmA := Lib.hid (bitS_in (n := xn) Hkf.out (by omega)).1
        have HmB := Lib.hid (bitS_in (n := xn) Hkf.out (by omega)).2
        have HiA := Lib.hid (bitS_in (n := xn) Hpk.out (by omega)).1
        have HiB := Lib.hid (bitS_in (n := xn) Hpk.out (by omega)).2
        have Hr := Lib.hid hr
        have ex : (xn : Int).toNat = xn := by simp
        have Hst := Lib.hid (show ∀ u v : Bool, u = bitB k xn → v = bitB p.pair.1 xn → stepBad k p.pair.1 yb ⟨xn, xr, xo⟩ = (((xo.length != 32 || decide ((xn : Int) ≤ yb)) || (u != xr)) || (v != xr)) from fun u v hu hv => by unfold stepBad; rw [Hr.out]; dsimp only; rw [ex, ← hu, ← hv, Bool.not_true, Bool.false_or])
        clear hr hx0 ex
        generalize hu : bitB k xn = u at *
        generalize hv : bitB p.pair.1 xn = v at *
        have Hst2 := Lib.hid (Hst.out u v rfl rfl)
        clear hu hv Hst
        rcases Bool.eq_false_or_eq_true (decide ((xn : Int) ≤ yb)) with ho | ho
        · have Hbd := Lib.hid (Hbad.out (by rw [Hst2.out, ho]; simp))
          go_wp2_with (first
            | (go_at_call 147; (with_reducible refine (pathBit_ok _ D k dc xn ?hq).mono ?_); (case hq => (refine Hk.out.bbelow (Below.next Hb1.out ?_ (by omega)); repeat' (first | exact Below.refl _ _ | assumption | refine Below.drew ?_ | refine below_drewN ?_ _ | refine Below.alloc ?_ (by first | exact Nat.le_refl _ | omega | (simp; done) | (simp; omega)) _))); rintro e w4 ⟨rfl, hb4⟩; obtain ⟨q0, q1, q2, hx4, hz4, q3, hw4⟩ := Hx.out w4 (hb4.mono (by simp)); rw [HmA.out, HmB.out]; clear hb4)
            | (go_at_call 147; (with_reducible refine (pathBit_ok _ K p.pair.1 a xn ?hq).mono ?_); (case hq => exact HK.out.bbelow hw4); rintro e w5 ⟨rfl, hb5⟩; have hx5 := hx4.next hb5 (by omega); have r0 := (hb5.cell (by simp; omega)).trans q0; have r1 := (hb5.cell (by simp; omega)).trans q1; have r2 := (hb5.cell (by simp; omega)).trans q2; rw [HiA.out, HiB.out]; clear hb5))
          go_ret
          exact ⟨ret_int (by rw [Hbd.out]), Hb1.out.next hx5 (by omega)⟩
        · rcases Bool.eq_false_or_eq_true (u != xr) with h1 | h1
          · have Hbd := Lib.hid (Hbad.out (by rw [Hst2.out, h1]; simp))
            clear Hst2 Hbad Hgood
            cases u <;> cases xr <;> first | exact absurd h1 (by decide) | skip
            all_goals
              go_wp2_with (first
                | (go_at_call 147; (with_reducible refine (pathBit_ok _ D k dc xn ?hq).mono ?_); (case hq => (refine Hk.out.bbelow (Below.next Hb1.out ?_ (by omega)); repeat' (first | exact Below.refl _ _ | assumption | refine Below.drew ?_ | refine below_drewN ?_ _ | refine Below.alloc ?_ (by first | exact Nat.le_refl _ | omega | (simp; done) | (simp; omega)) _))); rintro e w4 ⟨rfl, hb4⟩; obtain ⟨q0, q1, q2, hx4, hz4, q3, hw4⟩ := Hx.out w4 (hb4.mono (by simp)); rw [HmA.out, HmB.out]; clear hb4)
                | (go_at_call 147; (with_reducible refine (pathBit_ok _ K p.pair.1 a xn ?hq).mono ?_); (case hq => exact HK.out.bbelow hw4); rintro e w5 ⟨rfl, hb5⟩; have hx5 := hx4.next hb5 (by omega); have r0 := (hb5.cell (by simp; omega)).trans q0; have r1 := (hb5.cell (by simp; omega)).trans q1; have r2 := (hb5.cell (by simp; omega)).trans q2; rw [HiA.out, HiB.out]; clear hb5))
              go_ret
              exact ⟨ret_int (by rw [Hbd.out]), Hb1.out.next hx5 (by omega)⟩
          · rcases Bool.eq_false_or_eq_true (v != xr) with h2 | h2
            · have Hbd := Lib.hid (Hbad.out (by rw [Hst2.out, h2]; simp))
              clear Hst2 Hbad Hgood
              cases u <;> cases xr <;> cases v <;> first | exact absurd h1 (by decide) | exact absurd h2 (by decide) | skip
              all_goals
                go_wp2_with (first
                  | (go_at_call 147; (with_reducible refine (pathBit_ok _ D k dc xn ?hq).mono ?_); (case hq => (refine Hk.out.bbelow (Below.next Hb1.out ?_ (by omega)); repeat' (first | exact Below.refl _ _ | assumption | refine Below.drew ?_ | refine below_drewN ?_ _ | refine Below.alloc ?_ (by first | exact Nat.le_refl _ | omega | (simp; done) | (simp; omega)) _))); rintro e w4 ⟨rfl, hb4⟩; obtain ⟨q0, q1, q2, hx4, hz4, q3, hw4⟩ := Hx.out w4 (hb4.mono (by simp)); rw [HmA.out, HmB.out]; clear hb4)
                  | (go_at_call 147; (with_reducible refine (pathBit_ok _ K p.pair.1 a xn ?hq).mono ?_); (case hq => exact HK.out.bbelow hw4); rintro e w5 ⟨rfl, hb5⟩; have hx5 := hx4.next hb5 (by omega); have r0 := (hb5.cell (by simp; omega)).trans q0; have r1 := (hb5.cell (by simp; omega)).trans q1; have r2 := (hb5.cell (by simp; omega)).trans q2; rw [HiA.out, HiB.out]; clear hb5))
                go_ret
                exact ⟨ret_int (by rw [Hbd.out]), Hb1.out.next hx5 (by omega)⟩
            · by_cases hl : xo.length = 32
              · have hl' : ((xo.length : Int) != 32) = false := by simp [hl]
                have Hgd := Lib.hid (Hgood.out (by rw [Hst2.out, ho, h1, h2]; simp [hl]))
                clear hl Hst2 Hbad Hgood
                cases u <;> cases xr <;> cases v <;> first | exact absurd h1 (by decide) | exact absurd h2 (by decide) | skip
                all_goals
                  go_wp2_with (first
                    | (go_at_call 147; (with_reducible refine (pathBit_ok _ D k dc xn ?hq).mono ?_); (case hq => (refine Hk.out.bbelow (Below.next Hb1.out ?_ (by omega)); repeat' (first | exact Below.refl _ _ | assumption | refine Below.drew ?_ | refine below_drewN ?_ _ | refine Below.alloc ?_ (by first | exact Nat.le_refl _ | omega | (simp; done) | (simp; omega)) _))); rintro e w4 ⟨rfl, hb4⟩; obtain ⟨q0, q1, q2, hx4, hz4, q3, hw4⟩ := Hx.out w4 (hb4.mono (by simp)); rw [HmA.out, HmB.out]; clear hb4)
                    | (go_at_call 147; (with_reducible refine (pathBit_ok _ K p.pair.1 a xn ?hq).mono ?_); (case hq => exact HK.out.bbelow hw4); rintro e w5 ⟨rfl, hb5⟩; have hx5 := hx4.next hb5 (by omega); have r0 := (hb5.cell (by simp; omega)).trans q0; have r1 := (hb5.cell (by simp; omega)).trans q1; have r2 := (hb5.cell (by simp; omega)).trans q2; rw [HiA.out, HiB.out]; clear hb5))
                  go_roundw
                  case rel => exact ⟨j + 1, by omega, by go_num, by rw [Hpb.out], Hgd.out, Hbel.out.next hx5 (by omega)⟩
                  case measure => simp [intOf]; omega
              · have hl' : ((xo.length : Int) != 32) = true := by simp; omega
                have Hbd := Lib.hid (Hbad.out (by rw [Hst2.out]; simp [hl]))
                clear hl Hst2 Hbad Hgood
                cases u <;> cases xr <;> cases v <;> first | exact absurd h1 (by decide) | exact absurd h2 (by decide) | skip
                all_goals
                  go_wp2_with (first
                    | (go_at_call 147; (with_reducible refine (pathBit_ok _ D k dc xn ?hq).mono ?_); (case hq => (refine Hk.out.bbelow (Below.next Hb1.out ?_ (by omega)); repeat' (first | exact Below.refl _ _ | assumption | refine Below.drew ?_ | refine below_drewN ?_ _ | refine Below.alloc ?_ (by first | exact Nat.le_refl _ | omega | (simp; done) | (simp; omega)) _))); rintro e w4 ⟨rfl, hb4⟩; obtain ⟨q0, q1, q2, hx4, hz4, q3, hw4⟩ := Hx.out w4 (hb4.mono (by simp)); rw [HmA.out, HmB.out]; clear hb4)
                    | (go_at_call 147; (with_reducible refine (pathBit_ok _ K p.pair.1 a xn ?hq).mono ?_); (case hq => exact HK.out.bbelow hw4); rintro e w5 ⟨rfl, hb5⟩; have hx5 := hx4.next hb5 (by omega); have r0 := (hb5.cell (by simp; omega)).trans q0; have r1 := (hb5.cell (by simp; omega)).trans q1; have r2 := (hb5.cell (by simp; omega)).trans q2; rw [HiA.out, HiB.out]; clear hb5))
                  go_ret
                  exact ⟨ret_int (by rw [Hbd.out]), Hb1.out.next hx5 (by omega)⟩
      · have hx0 : ¬ (0 ≤ xb ∧ xb ≤ 144) := by intro h; simp [h] at hr
        have Hbd := Lib.hid (Hbad.out (by unfold stepBad; rw [hr]; rfl))
        have HmA := Lib.hid (bitS_out Hkf.out hx0).1
        have HmB := Lib.hid (bitS_out Hkf.out hx0).2
        have HiA := Lib.hid (bitS_out Hpk.out hx0).1
        have HiB := Lib.hid (bitS_out Hpk.out hx0).2
        clear hr hx0
        go_wp2_with (first
          | (go_at_call 147; (with_reducible refine (pathBit_ok _ D k dc xb ?hq).mono ?_); (case hq => (refine Hk.out.bbelow (Below.next Hb1.out ?_ (by omega)); repeat' (first | exact Below.refl _ _ | assumption | refine Below.drew ?_ | refine below_drewN ?_ _ | refine Below.alloc ?_ (by first | exact Nat.le_refl _ | omega | (simp; done) | (simp; omega)) _))); rintro e w4 ⟨rfl, hb4⟩; obtain ⟨q0, q1, q2, hx4, hz4, q3, hw4⟩ := Hx.out w4 (hb4.mono (by simp)); rw [HmA.out, HmB.out]; clear hb4)
          | (go_at_call 147; (with_reducible refine (pathBit_ok _ K p.pair.1 a xb ?hq).mono ?_); (case hq => exact HK.out.bbelow hw4); rintro e w5 ⟨rfl, hb5⟩; have hx5 := hx4.next hb5 (by omega); have r0 := (hb5.cell (by simp; omega)).trans q0; have r1 := (hb5.cell (by simp; omega)).trans q1; have r2 := (hb5.cell (by simp; omega)).trans q2; rw [HiA.out, HiB.out]; clear hb5))
        go_ret
        exact ⟨ret_int (by rw [Hbd.out]), Hb1.out.next hx5 (by omega)⟩
    · go_wp2
      go_ret
      obtain rfl : j = p.steps.length := by omega
      have h := Hval.out
      rw [Nat.sub_self] at h
      exact ⟨ret_int (by rw [Hv.out, ← h]; rfl), Hb1.out⟩
end Go.Proofs.Ythhcdibimnifaaa
