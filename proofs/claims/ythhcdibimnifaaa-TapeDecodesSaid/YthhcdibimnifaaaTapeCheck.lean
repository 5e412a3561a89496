/- Walks: what is refused of a commit: tape.Check, CommitFault; the law TapeChecks. -/
import Derived.Test.YthhcdibimnifaaaCm
namespace Go.Proofs.Ythhcdibimnifaaa
open Go.RowKit
set_option linter.unusedVariables false
set_option linter.unusedSimpArgs false

theorem writeS_nil (x : Wr) : (writeS [] x).2 = writeFaultS x := by
  unfold writeS
  by_cases h1 : writeFaultS x = 0
  · rw [if_neg (by simpa using h1), h1]
    have hn : nameFault x.name = 0 := by
      unfold writeFaultS at h1
      split at h1
      · rename_i h'; exact absurd h1 h'
      · rename_i h'; simpa using h'
    unfold writeFaultS at h1
    rw [if_neg (by simpa using hn)] at h1
    have hp : pairsOfS [] x.name = [] := rfl
    unfold writtenS
    dsimp only
    rw [hp]
    by_cases hf : x.flag = true
    · rw [if_pos hf] at h1
      have hk : keyFault x.key = 0 := by
        split at h1
        · rename_i h'; exact absurd h1 h'
        · rename_i h'; simpa using h'
      have e : nextS [] x = ([], 0) := by
        unfold nextS
        rw [if_pos hf]
        unfold delS pkFault
        rw [if_neg (show ¬ pairsFaultS [] ≠ 0 by decide), if_neg (by simpa using hk)]
        rfl
      rw [e]
      rfl
    · rw [if_neg hf] at h1
      have e : nextS [] x = ([(x.key, x.value)], 0) := by
        unfold nextS
        rw [if_neg hf]
        unfold putS ppFault
        rw [if_neg (show ¬ pairsFaultS [] ≠ 0 by decide), if_neg (by simpa using h1)]
        rfl
      rw [e]
      rfl
  · rw [if_pos h1]
theorem appliedS_one (x : Wr) : (appliedS [] [x]).2 = writeFaultS x := by
  unfold appliedS
  rw [if_neg (show ¬ forestFaultS [] ≠ 0 by decide), if_neg (show ¬ 10 < [x].length by simp)]
  unfold applyAll
  rw [← writeS_nil]
  by_cases h : (writeS [] x).2 = 0
  · rw [if_neg (by simpa using h), h]
    rfl
  · rw [if_pos h]
def cwAt (ws : List Wr) (i : Nat) : Int := if 10 ≤ i then 1 else writeFaultS (ws.getD i ⟨[], [], false, []⟩)
/-- What tape.Check and CommitFault answer. -/
def commitFaultS (c : Cm) : Int := if ¬ (1 ≤ c.1 ∧ c.1 ≤ 1048576) then 2 else if c.2.length = 0 then 1 else firstBad (cwAt c.2) c.2.length 0
theorem cwAt_low {ws : List Wr} {k : Nat} (hk : k < ws.length) (h : k < 10) : cwAt ws k = writeFaultS ws[k] := by
  unfold cwAt
  rw [if_neg (by omega)]
  simp [hk]
theorem cwAt_high {ws : List Wr} {k : Nat} (h : 10 ≤ k) : cwAt ws k = 1 := by
  unfold cwAt
  rw [if_pos h]
set_option maxRecDepth 100000 in
set_option maxHeartbeats 1000000 in
theorem commitFault_ok (w : World) (A : Option Addr) (t : Int) (l : List Wr) (n : Nat) (ha : Ws All w A l) (hn : l.length * 80 ≤ 140737488355328) :
    Calls Try.prog 50 #[.agg #[.int .i64 t, .slice A l.length n]] w (RetV w (.int .i64 (commitFaultS (t, l)))) := by
  have Ha := Lib.hid ha
  clear ha
  by_cases h1 : 1 ≤ t ∧ t ≤ 1048576
  · have b1 : (decide ((1 : Int) ≤ t) && decide (t ≤ 1048576)) = true := by simp [h1]
    by_cases h2 : l.length = 0
    · have Hv := Lib.hid (show commitFaultS (t, l) = 1 by unfold commitFaultS; rw [if_neg (by simpa using h1), if_pos h2])
      have b2 : ((l.length : Int) == 0) = true := by rw [beq_iff_eq]; omega
      clear h1 h2
      go_enter Try.func50, Try.ntmps50
      go_wp2_with (go_at_call 114; refine (in_ok _ _ _ _).mono ?_; rintro e w' ⟨rfl, rfl⟩)
      go_ret
      exact ⟨ret_int (by rw [Hv.out]), by repeat' (first | exact Below.refl _ _ | assumption | refine Below.drew ?_ | refine below_drewN ?_ _ | refine Below.setCell ?_ (by first | (simp; done) | omega | (simp; omega)) _ | refine Below.alloc ?_ (by first | exact Nat.le_refl _ | omega | (simp; done) | (simp; omega)) _)⟩
    · have Hv := Lib.hid (show commitFaultS (t, l) = firstBad (cwAt l) l.length 0 by unfold commitFaultS; rw [if_neg (by simpa using h1), if_neg h2])
      have b2 : ((l.length : Int) == 0) = false := by rw [beq_eq_false_iff_ne]; omega
      clear h1 h2
      have hbx := box_new w #[.int .i64 t, .slice A l.length n] 59
      have hb0 : Below w.heap.size w (w.alloc (.cells #[.int .i64 t, .slice A l.length n] 59)) := (Below.refl _ _).alloc (Nat.le_refl _) _
      have hz0 : w.heap.size < (w.alloc (.cells #[.int .i64 t, .slice A l.length n] 59)).heap.size := by simp
      have Hbx := Lib.hid hbx
      have Hb0 := Lib.hid hb0
      have Hz0 := Lib.hid hz0
      clear hbx hb0 hz0
      go_enter Try.func50, Try.ntmps50
      go_wp2_with (go_at_call 114; refine (in_ok _ _ _ _).mono ?_; rintro e w' ⟨rfl, rfl⟩)
      clear b1 b2
      generalize w.alloc (.cells #[.int .i64 t, .slice A l.length n] 59) = w0 at *
      go_loopw [3] (fun i wr => ∃ k : Nat, k ≤ l.length ∧ i = .int .i64 k ∧ firstBad (cwAt l) (l.length - k) k = commitFaultS (t, l) ∧ Below w0.heap.size w0 wr) (fun i _ => l.length - (intOf i).toNat)
      case atStart => exact ⟨0, by omega, rfl, by rw [Hv.out]; rfl, Below.refl _ _⟩
      case round =>
        obtain ⟨k, hk, rfl, hval, hbel⟩ := hrel
        have Hbel := Lib.hid hbel
        have Hval := Lib.hid hval
        have hbz := hbel.size
        obtain ⟨g0, g1, _, _⟩ := box2 ((hbel.block _ Hz0.out).trans Hbx.out)
        have Hb1 := Lib.hid (Hb0.out.next hbel (by have := Hz0.out; omega))
        clear hbel hval
        by_cases hlt : k < l.length
        · have Hstep := Lib.hid (firstBad_at (cwAt l) hlt)
          obtain ⟨g, off, A1, a1, B1, b1, C1, c1, rfl, _, hal, hc1, hc2, hc3, hc4, hs1, hs2, hs3, hb1, hb2, hb3⟩ := wrs_at (Ha.out.below wrR_stays Hb1.out) hlt
          by_cases h10 : k < 10
          · have Hz := Lib.hid (cwAt_low hlt h10)
            have d1 : decide ((10 : Int) ≤ (k : Int)) = false := by rw [decide_eq_false_iff_not]; omega
            by_cases he : writeFaultS l[k] = 0
            · have d2 : (writeFaultS l[k] != 0) = false := by simp [he]
              have He := Lib.hid he
              clear he
              generalize l[k] = x at *
              go_wp2_with (go_at_call 112; refine (writeFault_ok _ A1 B1 C1 x a1 b1 c1).mono ?_; rintro e w1 ⟨rfl, hbw1⟩)
              go_roundw
              case rel => exact ⟨k + 1, by omega, by go_num, by rw [← Hval.out, Hstep.out, if_neg (by rw [Hz.out, He.out]; decide)], Hbel.out.next hbw1 hbz⟩
              case measure => simp [intOf]; omega
            · have d2 : (writeFaultS l[k] != 0) = true := by simpa using he
              have He := Lib.hid he
              clear he
              generalize l[k] = x at *
              go_wp2_with (go_at_call 112; refine (writeFault_ok _ A1 B1 C1 x a1 b1 c1).mono ?_; rintro e w1 ⟨rfl, hbw1⟩)
              go_ret
              exact ⟨ret_int (by rw [← Hval.out, Hstep.out, if_pos (by rw [Hz.out]; exact He.out), Hz.out]), Hb1.out.next hbw1 (by have := Hz0.out; have := Hb0.out.size; omega)⟩
          · have Hz := Lib.hid (cwAt_high (ws := l) (k := k) (by omega))
            have d1 : decide ((10 : Int) ≤ (k : Int)) = true := by rw [decide_eq_true_eq]; omega
            generalize l[k] = x at *
            go_wp2_with (go_at_call 112; refine (writeFault_ok _ A1 B1 C1 x a1 b1 c1).mono ?_; rintro e w1 ⟨rfl, hbw1⟩)
            go_ret
            exact ⟨ret_int (by rw [← Hval.out, Hstep.out, if_pos (by rw [Hz.out]; decide), Hz.out]), Hb1.out.next hbw1 (by have := Hz0.out; have := Hb0.out.size; omega)⟩
        · obtain rfl : k = l.length := by omega
          have hfin := Hval.out
          rw [Nat.sub_self] at hfin
          have Hfin := Lib.hid hfin
          clear hfin
          go_wp2
          go_ret
          exact ⟨ret_int (by rw [← Hfin.out]; rfl), Hb1.out⟩
  · have b1 : (decide ((1 : Int) ≤ t) && decide (t ≤ 1048576)) = false := by
      rw [Bool.and_eq_false_iff, decide_eq_false_iff_not, decide_eq_false_iff_not]; omega
    have Hv := Lib.hid (show commitFaultS (t, l) = 2 by unfold commitFaultS; rw [if_pos h1])
    clear h1
    go_enter Try.func50, Try.ntmps50
    go_wp2_with (go_at_call 114; refine (in_ok _ _ _ _).mono ?_; rintro e w' ⟨rfl, rfl⟩)
    go_ret
    exact ⟨ret_int (by rw [Hv.out]), by repeat' (first | exact Below.refl _ _ | assumption | refine Below.drew ?_ | refine below_drewN ?_ _ | refine Below.setCell ?_ (by first | (simp; done) | omega | (simp; omega)) _ | refine Below.alloc ?_ (by first | exact Nat.le_refl _ | omega | (simp; done) | (simp; omega)) _)⟩
/-- One write in a block of its own. -/
theorem one_wr {w W : World} {t : TypeId} {A B C : Option Addr} {x : Wr} {a b c : Nat} (g : Nat) (hh : W.heap[g]? = some (.cells #[.slice A x.name.length a, .slice B x.key.length b, .bool x.flag, .slice C x.value.length c] t (0, 0))) (hb : Below w.heap.size w W) (h1 : Bs All w A x.name) (h2 : Bs All w B x.key) (h3 : Bs All w C x.value) (g1 : x.name.length ≤ big) (g2 : x.key.length ≤ big) (g3 : x.value.length ≤ big) : Ws All W (some ⟨g, 0, none⟩) [x] := by
  intro _
  obtain ⟨k0, k1, k2, k3, _⟩ := box4 hh
  refine ⟨g, 0, rfl, trivial, (Array.getElem?_eq_some_iff.1 hh).1, fun i hi => ?_⟩
  obtain rfl : i = 0 := by simp at hi; exact hi
  refine ⟨[.slice A x.name.length a, .slice B x.key.length b, .bool x.flag, .slice C x.value.length c], rfl, fun j hj => ?_, ⟨A, a, B, b, C, c, rfl, h1.bbelow hb, h2.bbelow hb, h3.bbelow hb, g1, g2, g3⟩⟩
  match j, hj with
  | 0, _ => simpa using k0
  | 1, _ => simpa using k1
  | 2, _ => simpa using k2
  | 3, _ => simpa using k3
set_option maxRecDepth 100000 in
set_option maxHeartbeats 1000000 in
theorem tapeCheck_ok (w : World) (A : Option Addr) (t : Int) (l : List Wr) (n : Nat) (ha : Ws All w A l) (hn : l.length * 80 ≤ 140737488355328) :
    Calls Try.prog 48 #[.agg #[.int .i64 t, .slice A l.length n]] w (RetV w (.int .i64 (commitFaultS (t, l)))) := by
  have Ha := Lib.hid ha
  clear ha
  by_cases h1 : 1 ≤ t ∧ t ≤ 1048576
  · have b1 : decide (t < 1) = false := by rw [decide_eq_false_iff_not]; omega
    have b1' : decide ((1048576 : Int) < t) = false := by rw [decide_eq_false_iff_not]; omega
    by_cases h2 : l.length = 0
    · have Hv := Lib.hid (show commitFaultS (t, l) = 1 by unfold commitFaultS; rw [if_neg (by simpa using h1), if_pos h2])
      have b2 : decide ((l.length : Int) < 1) = true := by rw [decide_eq_true_eq]; omega
      clear h1
      go_enter Try.func48, Try.ntmps48
      go_wp2
      go_ret
      exact ⟨ret_int (by rw [Hv.out]), by repeat' (first | exact Below.refl _ _ | assumption | refine Below.drew ?_ | refine below_drewN ?_ _ | refine Below.setCell ?_ (by first | (simp; done) | omega | (simp; omega)) _ | refine Below.alloc ?_ (by first | exact Nat.le_refl _ | omega | (simp; done) | (simp; omega)) _)⟩
    · have Hv := Lib.hid (show commitFaultS (t, l) = firstBad (cwAt l) l.length 0 by unfold commitFaultS; rw [if_neg (by simpa using h1), if_neg h2])
      have b2 : decide ((l.length : Int) < 1) = false := by rw [decide_eq_false_iff_not]; omega
      clear h1
      have Hb0 := Lib.hid (show Below w.heap.size w (w.alloc (.cells #[.int .i64 t, .slice A l.length n] 59)) from (Below.refl _ _).alloc (Nat.le_refl _) _)
      have Hz0 := Lib.hid (show w.heap.size < (w.alloc (.cells #[.int .i64 t, .slice A l.length n] 59)).heap.size by simp)
      go_enter Try.func48, Try.ntmps48
      go_wp2
      clear b1 b1' b2
      generalize w.alloc (.cells #[.int .i64 t, .slice A l.length n] 59) = w0 at *
      go_loopw [22] (fun i wr => ∃ k : Nat, k ≤ l.length ∧ k ≤ 10 ∧ i = .int .i64 k ∧ firstBad (cwAt l) (l.length - k) k = commitFaultS (t, l) ∧ Below w0.heap.size w0 wr) (fun i _ => l.length - (intOf i).toNat)
      case atStart => exact ⟨0, by omega, by omega, rfl, by rw [Hv.out]; rfl, Below.refl _ _⟩
      case round =>
        obtain ⟨k, hk, hk10, rfl, hval, hbel⟩ := hrel
        have Hbel := Lib.hid hbel
        have Hval := Lib.hid hval
        have hbz := hbel.size
        have Hb1 := Lib.hid (Hb0.out.next hbel (by have := Hz0.out; omega))
        clear hbel hval
        by_cases hlt : k < l.length
        · have Hstep := Lib.hid (firstBad_at (cwAt l) hlt)
          obtain ⟨g, off, A1, a1, B1, b1, C1, c1, rfl, _, hal, hc1, hc2, hc3, hc4, hs1, hs2, hs3, hb1, hb2, hb3⟩ := wrs_at (Ha.out.below wrR_stays Hb1.out) hlt
          by_cases h10 : k < 10
          · have Hz := Lib.hid (cwAt_low hlt h10)
            have d1 : ((k : Int) == 10) = false := by rw [beq_eq_false_iff_ne]; omega
            have Hone := Lib.hid (appliedS_one l[k])
            by_cases he : writeFaultS l[k] = 0
            · have d2 : (writeFaultS l[k] != 0) = false := by simp [he]
              have He := Lib.hid he
              clear he
              generalize l[k] = x at *
              go_wp2_with (go_at_call 44; refine (forestApply_ok _ none [] 0 _ [x] 1 SL.nil ?hws).mono ?_; (case hws => exact one_wr (w := wr) (wr.heap.size + 1) (by have := box_new (wr.alloc (.cells #[.slice A1 x.name.length a1, .slice B1 x.key.length b1, .bool x.flag, .slice C1 x.value.length c1] 94)) #[.slice A1 x.name.length a1, .slice B1 x.key.length b1, .bool x.flag, .slice C1 x.value.length c1] 94; simpa using this) (((Below.refl _ _).alloc (Nat.le_refl _) _).alloc (by simp) _) hs1.bz hs2.bz hs3.bz hb1 hb2 hb3); rintro e w1 ⟨A5, c5, rfl, _, _, hbw1⟩; rw [Hone.out]; simp only [List.length_nil])
              go_roundw
              case rel => exact ⟨k + 1, by omega, by omega, by go_num, by rw [← Hval.out, Hstep.out, if_neg (by rw [Hz.out, He.out]; decide)], ((Hbel.out.alloc hbz _).alloc (by simp; omega) _).next hbw1 (by simp; omega)⟩
              case measure => simp [intOf]; omega
            · have d2 : (writeFaultS l[k] != 0) = true := by simpa using he
              have He := Lib.hid he
              clear he
              generalize l[k] = x at *
              go_wp2_with (go_at_call 44; refine (forestApply_ok _ none [] 0 _ [x] 1 SL.nil ?hws).mono ?_; (case hws => exact one_wr (w := wr) (wr.heap.size + 1) (by have := box_new (wr.alloc (.cells #[.slice A1 x.name.length a1, .slice B1 x.key.length b1, .bool x.flag, .slice C1 x.value.length c1] 94)) #[.slice A1 x.name.length a1, .slice B1 x.key.length b1, .bool x.flag, .slice C1 x.value.length c1] 94; simpa using this) (((Below.refl _ _).alloc (Nat.le_refl _) _).alloc (by simp) _) hs1.bz hs2.bz hs3.bz hb1 hb2 hb3); rintro e w1 ⟨A5, c5, rfl, _, _, hbw1⟩; rw [Hone.out])
              go_ret
              exact ⟨ret_int (by rw [← Hval.out, Hstep.out, if_pos (by rw [Hz.out]; exact He.out), Hz.out]), ((Hb1.out.alloc (by have := Hz0.out; omega) _).alloc (by have := Hz0.out; simp; omega) _).next hbw1 (by have := Hz0.out; simp; omega)⟩
          · obtain rfl : k = 10 := by omega
            have Hz := Lib.hid (cwAt_high (ws := l) (k := 10) (by omega))
            generalize l[10] = x at *
            go_wp2
            go_ret
            exact ⟨ret_int (by rw [← Hval.out, Hstep.out, if_pos (by rw [Hz.out]; decide), Hz.out]), Hb1.out.alloc (by have := Hz0.out; omega) _⟩
        · obtain rfl : k = l.length := by omega
          have hfin := Hval.out
          rw [Nat.sub_self] at hfin
          have Hfin := Lib.hid hfin
          clear hfin
          go_wp2
          go_ret
          exact ⟨ret_int (by rw [← Hfin.out]; rfl), Hb1.out⟩
  · have Hv := Lib.hid (show commitFaultS (t, l) = 2 by unfold commitFaultS; rw [if_pos h1])
    by_cases h3 : t < 1
    · have b1 : decide (t < 1) = true := by rw [decide_eq_true_eq]; exact h3
      clear h1 h3
      go_enter Try.func48, Try.ntmps48
      go_wp2
      go_ret
      exact ⟨ret_int (by rw [Hv.out]), by repeat' (first | exact Below.refl _ _ | assumption | refine Below.drew ?_ | refine below_drewN ?_ _ | refine Below.setCell ?_ (by first | (simp; done) | omega | (simp; omega)) _ | refine Below.alloc ?_ (by first | exact Nat.le_refl _ | omega | (simp; done) | (simp; omega)) _)⟩
    · have b1 : decide (t < 1) = false := by rw [decide_eq_false_iff_not]; exact h3
      have b1' : decide ((1048576 : Int) < t) = true := by rw [decide_eq_true_eq]; omega
      clear h1 h3
      go_enter Try.func48, Try.ntmps48
      go_wp2
      go_ret
      exact ⟨ret_int (by rw [Hv.out]), by repeat' (first | exact Below.refl _ _ | assumption | refine Below.drew ?_ | refine below_drewN ?_ _ | refine Below.setCell ?_ (by first | (simp; done) | omega | (simp; omega)) _ | refine Below.alloc ?_ (by first | exact Nat.le_refl _ | omega | (simp; done) | (simp; omega)) _)⟩
set_option maxRecDepth 100000 in
set_option maxHeartbeats 400000 in
theorem tapeChecks_walk (w : World) {cl : List Value} {x : Cm} (h : CmR All w cl x) :
    Calls Try.prog 11 #[.agg cl.toArray] w (RetV w (.bool true)) := by
  obtain ⟨A, n, rfl, hs, h80⟩ := h
  have Hs := Lib.hid hs
  clear hs
  have Hbox := Lib.hid (show ∀ W, Below (w.heap.size + 1) (w.alloc (.cells #[.int .i64 x.1, .slice A x.2.length n] 59)) W → W.cell? ⟨w.heap.size, 0, none⟩ = some (.int .i64 x.1) ∧ W.cell? ⟨w.heap.size, 1, none⟩ = some (.slice A x.2.length n) ∧ Below w.heap.size w W ∧ w.heap.size + 1 ≤ W.heap.size from fun W hW => by
    obtain ⟨g0, g1, _, _⟩ := box2 ((hW.block _ (by omega)).trans (box_new w _ _))
    exact ⟨g0, g1, ((Below.refl w.heap.size w).alloc (Nat.le_refl _) _).trans (hW.mono (by omega)), by simpa using hW.size⟩)
  go_enter Try.func11, Try.ntmps11
  go_wp2_with (first
    | (go_at_call 49; refine (commit_ok _ A x.1 x.2 n (Hs.out.below wrR_stays ?_) h80).mono ?_; (repeat' (first | exact Below.refl _ _ | assumption | refine Below.drew ?_ | refine below_drewN ?_ _ | refine Below.alloc ?_ (by first | exact Nat.le_refl _ | omega | (simp; done) | (simp; omega)) _)); rintro e w1 ⟨A1, n1, rfl, _, hs1, hb1'⟩; have hb1 : Below (w.heap.size + 1) (w.alloc (.cells #[.int .i64 x.1, .slice A x.2.length n] 59)) w1 := hb1'.mono (by first | (simp; done) | omega | (simp; omega)); obtain ⟨g0, g1, hw1, hz1⟩ := Hbox.out w1 hb1)
    | (go_at_call 48; refine (tapeCheck_ok _ A1 x.1 x.2 n1 (hs1.z wrR_stays) h80).mono ?_; rintro e w2 ⟨rfl, hb2⟩; have hb12 := hb1.next hb2 hz1; obtain ⟨g2, g3, hw2, hz2⟩ := Hbox.out w2 hb12)
    | (go_at_call 50; refine (commitFault_ok _ A x.1 x.2 n (Hs.out.below wrR_stays hw2) h80).mono ?_; rintro e w3 ⟨rfl, hb3⟩; have hb13 := hb12.next hb3 hz2; obtain ⟨_, _, hw3, _⟩ := Hbox.out w3 hb13))
  go_ret
  exact ⟨by simp, hw3⟩
end Go.Proofs.Ythhcdibimnifaaa
