/- HRoot: Walks: history.Root and HistoryRoot; the law HistoryRoots. The conditions of each are in its words. -/
import Derived.Test.YteacjkihjeiafaaDoorKHist
import Derived.Test.YteacjkihjeiafaaDoorKFRoot
namespace Go.Proofs.YteacjkihjeiafaaDoor
open Go.RowKit
set_option linter.unusedVariables false
set_option linter.unusedSimpArgs false

/-- What history.Root and HistoryRoot answer. -/
def histRootS (l : List Cm) (t : Int) : List UInt8 × Int := if (foldS l t).2 ≠ 0 then ([], (foldS l t).2) else (rootS ((foldS l t).1.map rootP), 0)
theorem foldS_fine {l : List Cm} {t : Int} : forestFaultS (foldS l t).1 = 0 := by
  unfold foldS
  split
  · rfl
  · split
    · rfl
    · exact foldedS_fine _ _
set_option maxRecDepth 100000 in
set_option maxHeartbeats 1000000 in
theorem historyRoot_ok (w : World) (hT : TabsAt w) (A : Option Addr) (l : List Cm) (c : Nat) (t : Int) (ha : Cs All w A l) :
    Calls Tryd.prog 26 #[.slice A l.length c, .int .i64 t] w (RetBsE w (histRootS l t)) := by
  have HT := Lib.hid hT
  have Ha := Lib.hid ha
  obtain ⟨f, fe, hf⟩ : ∃ f fe, foldS l t = (f, fe) := ⟨_, _, rfl⟩
  have Hff := Lib.hid (show forestFaultS f = 0 by have := @foldS_fine l t; rw [hf] at this; exact this)
  have Hf := Lib.hid hf
  clear hT ha
  by_cases hz : fe = 0
  · subst hz
    have Hv := Lib.hid (show histRootS l t = (rootS (f.map rootP), 0) by unfold histRootS; rw [hf]; rfl)
    have Hr := Lib.hid (show forestRootS f = (rootS (f.map rootP), 0) by rw [forestRootS, if_pos Hff.out])
    clear hf
    go_enter Tryd.func26, Tryd.ntmps26
    go_wp2_with (first
      | (go_at_call 61; (with_reducible refine (historyFold_ok _ A l c t Ha.out).mono ?_); rw [Hf.out]; rintro e1 w1 ⟨B, b, rfl, hs1, hb1⟩)
      | (go_at_call 62; (with_reducible refine (forestRoot_ok _ ?hT B f b ?ha).mono ?_); (case hT => exact HT.out.below hb1); (case ha => exact hs1.z tenR_stays); rw [Hr.out]; rintro e2 w2 ⟨C, d, rfl, hs2, hb2⟩))
    go_ret2
    rw [Hv.out]
    exact ⟨C, d, rfl, hs2.blo hb1.size, hb1.next hb2 hb1.size⟩
  · have Hv := Lib.hid (show histRootS l t = ([], fe) by unfold histRootS; rw [hf]; simp only []; rw [if_pos hz])
    have hb : (fe != 0) = true := by simpa using hz
    clear hf hz
    go_enter Tryd.func26, Tryd.ntmps26
    go_wp2_with ((go_at_call 61; (with_reducible refine (historyFold_ok _ A l c t Ha.out).mono ?_); rw [Hf.out]; rintro e1 w1 ⟨B, b, rfl, hs1, hb1⟩))
    go_ret2
    rw [Hv.out]
    exact ⟨none, 0, rfl, SL.nil, hb1⟩
set_option maxRecDepth 100000 in
set_option maxHeartbeats 1000000 in
theorem refHistoryRoot_ok (w : World) (A : Option Addr) (l : List Cm) (c : Nat) (t : Int) (ha : Cs All w A l) :
    Calls Tryd.prog 28 #[.slice A l.length c, .int .i64 t] w (RetBsE w (histRootS l t)) := by
  have Ha := Lib.hid ha
  obtain ⟨f, fe, hf⟩ : ∃ f fe, foldS l t = (f, fe) := ⟨_, _, rfl⟩
  have Hff := Lib.hid (show forestFaultS f = 0 by have := @foldS_fine l t; rw [hf] at this; exact this)
  have Hf := Lib.hid hf
  clear ha
  by_cases hz : fe = 0
  · subst hz
    have Hv := Lib.hid (show histRootS l t = (rootS (f.map rootP), 0) by unfold histRootS; rw [hf]; rfl)
    have H8 := Lib.hid ((ten_fault_iff f).1 Hff.out).1
    clear hf
    go_enter Tryd.func28, Tryd.ntmps28
    go_wp2_with (first
      | (go_at_call 63; (with_reducible refine (foldOf_ok _ A l c t Ha.out).mono ?_); rw [Hf.out]; rintro e1 w1 ⟨B, b, rfl, hs1, hb1⟩)
      | (go_at_call 45; (with_reducible refine (rootsOf_ok _ B f b ?ha H8.out (allFine_of Hff.out)).mono ?_); (case ha => exact hs1.z tenR_stays); rintro e2 w2 ⟨C, d, rfl, _, hs2, hb2⟩; have hq2 := hb1.next hb2 hb1.size)
      | (go_at_call 64; (with_reducible refine (rootOf_at _ C f d ?ha H8.out (roots_fine Hff.out)).mono ?_); (case ha => exact hs2.z pairR_stays); rintro e3 w3 ⟨D, d3, rfl, hs3, hb3⟩))
    go_ret2
    rw [Hv.out]
    exact ⟨D, d3, rfl, hs3.blo hq2.size, hq2.next hb3 hq2.size⟩
  · have Hv := Lib.hid (show histRootS l t = ([], fe) by unfold histRootS; rw [hf]; simp only []; rw [if_pos hz])
    have hb : (fe != 0) = true := by simpa using hz
    clear hf hz
    go_enter Tryd.func28, Tryd.ntmps28
    go_wp2_with ((go_at_call 63; (with_reducible refine (foldOf_ok _ A l c t Ha.out).mono ?_); rw [Hf.out]; rintro e1 w1 ⟨B, b, rfl, hs1, hb1⟩))
    go_ret2
    rw [Hv.out]
    exact ⟨none, 0, rfl, SL.nil, hb1⟩
set_option maxRecDepth 100000 in
set_option maxHeartbeats 1000000 in
theorem historyRoots_walk (w : World) (hT : TabsAt w) {A : Option Addr} {l : List Cm} {c : Nat} (h : Cs All w A l ∧ l.length * 32 ≤ 140737488355328) {t : Int} (_ : (Lit.int .i64 t).wf = true) :
    Calls Tryd.prog 7 #[.slice A l.length c, .int .i64 t] w (RetV w (.bool true)) := by
  have HT := Lib.hid hT
  have H := Lib.hid h
  obtain ⟨r, ri, hr⟩ : ∃ r ri, histRootS l t = (r, ri) := ⟨_, _, rfl⟩
  have Hr := Lib.hid hr
  clear h hT hr
  go_enter Tryd.func7, Tryd.ntmps7
  go_wp2_with (first
    | (go_at_call 27; refine (commits_ok _ A l c H.out.1 H.out.2).mono ?_; rintro e w1 ⟨A1, c1, rfl, _, hs1, hb1⟩)
    | (go_at_call 26; refine (historyRoot_ok _ (HT.out.below hb1) A1 l c1 t (hs1.z cmR_stays)).mono ?_; rw [Hr.out]; rintro e w2 ⟨B2, b2, rfl, hs2, hb2⟩; have hq2 := hb1.next hb2 hb1.size)
    | (go_at_call 28; refine (refHistoryRoot_ok _ A l c t (H.out.1.below cmR_stays hq2)).mono ?_; rw [Hr.out]; rintro e w3 ⟨B3, b3, rfl, hs3, hb3⟩; have hq3 := hq2.next hb3 hq2.size)
    | (go_at_call 29; (with_reducible refine (sameBytes_ok _ B2 B3 r r b2 b3 ?ha ?hb).mono ?_); (case ha => exact (hs2.bbelow hb3).bz); (case hb => exact hs3.bz); rintro e4 w4 ⟨rfl, rfl⟩))
  all_goals
    go_ret
    exact ⟨by simp, hq3⟩
end Go.Proofs.YteacjkihjeiafaaDoor
