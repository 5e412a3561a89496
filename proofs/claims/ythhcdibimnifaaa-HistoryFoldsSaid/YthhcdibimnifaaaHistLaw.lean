/- Walks: history.Check, history.Fold; the laws HistoryChecks and HistoryFolds. -/
import Derived.Test.YthhcdibimnifaaaHist
import Derived.Test.YthhcdibimnifaaaSameTen
namespace Go.Proofs.Ythhcdibimnifaaa
open Go.RowKit
set_option linter.unusedVariables false
set_option linter.unusedSimpArgs false

set_option maxRecDepth 100000 in
set_option maxHeartbeats 1000000 in
theorem historyCheck_ok (w : World) (A : Option Addr) (l : List Cm) (c : Nat) (ha : Cs All w A l) :
    Calls Try.prog 57 #[.slice A l.length c] w (RetV w (.int .i64 (histFaultS l))) := by
  have Ha := Lib.hid ha
  have He := Lib.hid (show ∀ t, (foldedES l t).2 = histFaultS l from fun t => by unfold foldedES; by_cases h : histFaultS l = 0 <;> simp [h])
  clear ha
  go_enter Try.func57, Try.ntmps57
  go_wp2_with (go_at_call 120; refine (histFolded_ok _ A l c _ Ha.out).mono ?_; rintro e w1 ⟨F, cf, rfl, _, hb1⟩; rw [He.out])
  go_ret
  exact ⟨rfl, hb1⟩
theorem outS_end {l : List Cm} {t : Int} (h : 0 ≤ t ∧ t ≤ l.length) : outS l t l.length = foldedS l t.toNat := by
  unfold outS
  by_cases h1 : 1 ≤ t
  · rw [if_pos ⟨h1, h.2⟩]
  · rw [if_neg (by omega)]
    obtain rfl : t = 0 := by omega
    rfl
set_option maxRecDepth 100000 in
set_option maxHeartbeats 1000000 in
theorem historyFold_ok (w : World) (A : Option Addr) (l : List Cm) (c : Nat) (t : Int) (ha : Cs All w A l) :
    Calls Try.prog 60 #[.slice A l.length c, .int .i64 t] w (RetTEb w (foldS l t)) := by
  have Ha := Lib.hid ha
  clear ha
  by_cases h1 : histFaultS l = 0
  · have Hf := Lib.hid (show foldedES l t = (outS l t l.length, 0) by unfold foldedES; rw [if_neg (by simpa using h1)])
    by_cases h2 : 0 ≤ t ∧ t ≤ l.length
    · have Hv := Lib.hid (show foldS l t = (outS l t l.length, 0) by unfold foldS; rw [if_neg (by simpa using h1), if_neg (by simpa using h2), outS_end h2])
      have b1 : decide (t < 0) = false := by rw [decide_eq_false_iff_not]; omega
      have b2 : decide ((l.length : Int) < t) = false := by rw [decide_eq_false_iff_not]; omega
      clear h1 h2
      go_enter Try.func60, Try.ntmps60
      go_wp2_with (go_at_call 120; refine (histFolded_ok _ A l c _ Ha.out).mono ?_; rw [Hf.out]; rintro e w1 ⟨F, cf, rfl, hs1, hb1⟩; have Hs1 := Lib.hid hs1; clear hs1)
      go_ret2
      rw [Hv.out]
      exact ⟨F, cf, rfl, Hs1.out, hb1⟩
    · have Hv := Lib.hid (show foldS l t = ([], 2) by unfold foldS; rw [if_neg (by simpa using h1), if_pos h2])
      by_cases h3 : t < 0
      · have b1 : decide (t < 0) = true := by rw [decide_eq_true_eq]; exact h3
        clear h1 h2 h3
        go_enter Try.func60, Try.ntmps60
        go_wp2_with (go_at_call 120; refine (histFolded_ok _ A l c _ Ha.out).mono ?_; rw [Hf.out]; rintro e w1 ⟨F, cf, rfl, hs1, hb1⟩; clear hs1)
        go_ret2
        rw [Hv.out]
        exact ⟨none, 0, rfl, SL.nil, hb1⟩
      · have b1 : decide (t < 0) = false := by rw [decide_eq_false_iff_not]; exact h3
        have b2 : decide ((l.length : Int) < t) = true := by rw [decide_eq_true_eq]; omega
        clear h1 h2 h3
        go_enter Try.func60, Try.ntmps60
        go_wp2_with (go_at_call 120; refine (histFolded_ok _ A l c _ Ha.out).mono ?_; rw [Hf.out]; rintro e w1 ⟨F, cf, rfl, hs1, hb1⟩; clear hs1)
        go_ret2
        rw [Hv.out]
        exact ⟨none, 0, rfl, SL.nil, hb1⟩
  · have Hf := Lib.hid (show foldedES l t = ([], histFaultS l) by unfold foldedES; rw [if_pos h1])
    have b1 : (histFaultS l != 0) = true := by simpa using h1
    have Hv := Lib.hid (show foldS l t = ([], histFaultS l) by unfold foldS; rw [if_pos h1])
    clear h1
    go_enter Try.func60, Try.ntmps60
    go_wp2_with (go_at_call 120; refine (histFolded_ok _ A l c _ Ha.out).mono ?_; rw [Hf.out]; rintro e w1 ⟨F, cf, rfl, hs1, hb1⟩; clear hs1)
    go_ret2
    rw [Hv.out]
    exact ⟨none, 0, rfl, SL.nil, hb1⟩
set_option maxRecDepth 100000 in
set_option maxHeartbeats 1000000 in
theorem historyChecks_walk (w : World) {A : Option Addr} {l : List Cm} {c : Nat} (h : Cs All w A l ∧ l.length * 32 ≤ 140737488355328) :
    Calls Try.prog 14 #[.slice A l.length c] w (RetV w (.bool true)) := by
  obtain ⟨ha, hn⟩ := h
  have Ha := Lib.hid ha
  clear ha
  go_enter Try.func14, Try.ntmps14
  go_wp2_with (first
    | (go_at_call 58; refine (commits_ok _ A l c Ha.out hn).mono ?_; rintro e w1 ⟨A1, c1, rfl, _, hs1, hb1⟩)
    | (go_at_call 57; refine (historyCheck_ok _ A1 l c1 (hs1.z cmR_stays)).mono ?_; rintro e w2 ⟨rfl, hb2⟩; have hb12 := hb1.next hb2 hb1.size)
    | (go_at_call 59; refine (histFault_ok _ A l c (Ha.out.below cmR_stays hb12)).mono ?_; rintro e w3 ⟨rfl, hb3⟩; have hb13 := hb12.next hb3 hb12.size))
  go_ret
  exact ⟨by simp, hb13⟩
theorem appliedS_len (f : List Tn) (ws : List Wr) : (appliedS f ws).1.length ≤ 8 := (ten_fine (appliedS_fine f ws)).1
theorem foldedS_len (l : List Cm) (n : Nat) : (foldedS l n).length ≤ 8 := (ten_fine (foldedS_fine l n)).1
theorem foldS_len (l : List Cm) (t : Int) : (foldS l t).1.length ≤ 8 := by
  unfold foldS
  split
  · simp
  · split
    · simp
    · exact foldedS_len _ _
set_option maxRecDepth 100000 in
set_option maxHeartbeats 1000000 in
theorem historyFolds_walk (w : World) {A : Option Addr} {l : List Cm} {c : Nat} (h : Cs All w A l ∧ l.length * 32 ≤ 140737488355328) {t : Int} (_ : (Lit.int .i64 t).wf = true) :
    Calls Try.prog 15 #[.slice A l.length c, .int .i64 t] w (RetV w (.bool true)) := by
  obtain ⟨ha, hn⟩ := h
  have Ha := Lib.hid ha
  obtain ⟨r, hr⟩ : ∃ r, r = foldS l t := ⟨_, rfl⟩
  have hrl : r.1.length ≤ big := by have := foldS_len l t; rw [hr]; unfold big; omega
  have hll : l.length ≤ big := by unfold big; omega
  have Hp := Lib.hid (show ∀ (W : World) (A : Option Addr) (c : Nat), Cs All W A l → Calls Try.prog 60 #[.slice A l.length c, .int .i64 t] W (RetTEb W r) from fun W A c h => by rw [hr]; exact historyFold_ok W A l c t h)
  have Hq := Lib.hid (show ∀ (W : World) (A : Option Addr) (c : Nat), Cs All W A l → Calls Try.prog 61 #[.slice A l.length c, .int .i64 t] W (RetTEb W r) from fun W A c h => by rw [hr]; exact foldOf_ok W A l c t h)
  clear ha hr
  go_enter Try.func15, Try.ntmps15
  go_wp2_with (first
    | (go_at_call 58; refine (commits_ok _ A l c Ha.out hn).mono ?_; rintro e w1 ⟨A1, c1, rfl, _, hs1, hb1⟩)
    | (go_at_call 60; refine (Hp.out _ A1 c1 (hs1.z cmR_stays)).mono ?_; rintro e w2 ⟨A2, c2, rfl, hs2, hb2⟩; have hb12 := hb1.next hb2 hb1.size)
    | (go_at_call 61; refine (Hq.out _ A c (Ha.out.below cmR_stays hb12)).mono ?_; rintro e w3 ⟨A3, c3, rfl, hs3, hb3⟩; have hb13 := hb12.next hb3 hb12.size)
    | (go_at_call 46; refine (sameTenants_ok _ A2 A3 r.1 c2 c3 ((hs2.z tenR_stays).below tenR_stays hb3) (hs3.z tenR_stays) hrl).mono ?_; rintro e w4 ⟨rfl, hb4⟩; have hb14 := hb13.next hb4 hb13.size)
    | (go_at_call 62; refine (sameCommits_ok _ A1 A l c1 c ((((hs1.z cmR_stays).below cmR_stays hb2).below cmR_stays hb3).below cmR_stays hb4) (Ha.out.below cmR_stays hb14) hll).mono ?_; rintro e w5 ⟨rfl, hb5⟩; have hb15 := hb14.next hb5 hb14.size))
  go_ret
  exact ⟨by simp, hb15⟩
end Go.Proofs.Ythhcdibimnifaaa
