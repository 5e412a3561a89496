/- Hist: Walks: history.Check, history.Fold and what the references say of them; their laws. Walks: history.Check, history.Fold; the laws HistoryChecks and HistoryFolds. The conditions of each are in its words. -/
import Derived.Test.YteacjkihjeiafaaDoorKCommit
import Derived.Test.YteacjkihjeiafaaDoorKForest
namespace Go.Proofs.YteacjkihjeiafaaDoor
open Go.RowKit
set_option linter.unusedVariables false
set_option linter.unusedSimpArgs false

/-- The forest behind so many commits. -/
def foldedS (l : List Cm) (n : Nat) : List Tn := (l.take n).foldl (fun f c => (appliedS f c.2).1) []
theorem foldedS_next {l : List Cm} {k : Nat} (h : k < l.length) : foldedS l (k + 1) = (appliedS (foldedS l k) l[k].2).1 := by
  unfold foldedS
  rw [take_snoc l k h, List.foldl_append]
  rfl
theorem foldedS_zero (l : List Cm) : foldedS l 0 = [] := rfl
theorem foldedS_fine (l : List Cm) (n : Nat) : Fine (foldedS l n) := by
  unfold foldedS
  generalize l.take n = m
  have h : ∀ (m : List Cm) (f : List Tn), Fine f → Fine (m.foldl (fun f c => (appliedS f c.2).1) f) := by
    intro m
    induction m with
    | nil => exact fun f h => h
    | cons c m ih => exact fun f _ => ih _ (appliedS_fine f c.2)
  exact h m [] rfl
/-- What is refused at a place. -/
def histAt (l : List Cm) (i : Nat) : Int :=
  if commitFaultS (l.getD i (0, [])) ≠ 0 then commitFaultS (l.getD i (0, [])) else if (l.getD i (0, [])).1 ≠ (i : Int) + 1 then 3 else (appliedS (foldedS l i) (l.getD i (0, [])).2).2
/-- What HistoryFault and history.Check answer. -/
def histFaultS (l : List Cm) : Int := if 300 < l.length then 1 else firstBad (histAt l) l.length 0
theorem histAt_bad {l : List Cm} {k : Nat} (hk : k < l.length) (h : commitFaultS l[k] ≠ 0) : histAt l k = commitFaultS l[k] := by
  simp [histAt, hk, h]
theorem histAt_turn {l : List Cm} {k : Nat} (hk : k < l.length) (h : commitFaultS l[k] = 0) (h' : l[k].1 ≠ (k : Int) + 1) : histAt l k = 3 := by
  simp [histAt, hk, h, h']
theorem histAt_apply {l : List Cm} {k : Nat} (hk : k < l.length) (h : commitFaultS l[k] = 0) (h' : l[k].1 = (k : Int) + 1) : histAt l k = (appliedS (foldedS l k) l[k].2).2 := by
  simp [histAt, hk, h, h']
set_option maxRecDepth 100000 in
set_option maxHeartbeats 1000000 in
theorem histFault_ok (w : World) (A : Option Addr) (l : List Cm) (c : Nat) (ha : Cs All w A l) :
    Calls Tryd.prog 103 #[.slice A l.length c] w (RetV w (.int .i64 (histFaultS l))) := by
  have Ha := Lib.hid ha
  clear ha
  by_cases hbig : 300 < l.length
  · go_enter Tryd.func103, Tryd.ntmps103
    go_wp2
    go_ret
    exact ⟨ret_int (by simp [histFaultS, hbig]), Below.refl _ _⟩
  · have Hv := Lib.hid (show histFaultS l = firstBad (histAt l) l.length 0 by simp [histFaultS, hbig])
    have h300 : decide (300 < (l.length : Int)) = false := by rw [decide_eq_false_iff_not]; omega
    go_enter Tryd.func103, Tryd.ntmps103
    go_wp2
    clear h300
    go_loopw [3, 4] (fun v i wr => ∃ (k : Nat) (F : Option Addr) (cf : Nat), k ≤ l.length ∧ i = .int .i64 k ∧ v = .slice F (foldedS l k).length cf ∧ Ts All wr F (foldedS l k) ∧ firstBad (histAt l) (l.length - k) k = histFaultS l ∧ Below w.heap.size w wr) (fun _ i _ => l.length - (intOf i).toNat)
    case atStart => exact ⟨0, none, 0, by omega, rfl, rfl, SL.nil, by rw [Hv.out]; rfl, Below.refl _ _⟩
    case round =>
      obtain ⟨k, F, cf, hk, rfl, rfl, hf, hval, hbel⟩ := hrel
      have Hbel := Lib.hid hbel
      have Hval := Lib.hid hval
      have HF := Lib.hid hf
      have hbz := hbel.size
      clear hbel hval hf
      by_cases hlt : k < l.length
      · have Hstep := Lib.hid (firstBad_at (histAt l) hlt)
        have Hnx := Lib.hid (foldedS_next hlt)
        obtain ⟨g, off, B, n, rfl, _, hal, hc1, hc2, hs1, h80⟩ := cms_at (Ha.out.below cmR_stays Hbel.out) hlt
        have hw1 : IntKind.i64.wrap ((k : Int) + 1) = (k : Int) + 1 := by rw [IntKind.wrap_i64]; omega
        have Hcells := Lib.hid (show ∀ W, Below wr.heap.size wr W → W.cell? ⟨g, off + k * 2, none⟩ = some (.int .i64 l[k].1) ∧ W.cell? ⟨g, off + k * 2 + 1, none⟩ = some (.slice B l[k].2.length n) from fun W hW => ⟨(hW.cell hal).trans hc1, (hW.cell hal).trans hc2⟩)
        by_cases h1 : commitFaultS l[k] = 0
        · have b1 : (commitFaultS l[k] == 0) = true := by simp [h1]
          have b2 : (commitFaultS l[k] != 0) = false := by simp [h1]
          by_cases h2 : l[k].1 = (k : Int) + 1
          · have Hz := Lib.hid (histAt_apply hlt h1 h2)
            have b3 : (l[k].1 != (k : Int) + 1) = false := by simp [h2]
            clear h1 h2
            by_cases h3 : (appliedS (foldedS l k) l[k].2).2 = 0
            · have b4 : ((appliedS (foldedS l k) l[k].2).2 != 0) = false := by simp [h3]
              have H3 := Lib.hid h3
              clear h3
              generalize l[k] = x at *
              generalize foldedS l k = f at *
              go_wp2_with (first
                | (go_at_call 92; refine (commitFault_ok _ B x.1 x.2 n (hs1.z wrR_stays) h80).mono ?_; rintro e w1 ⟨rfl, hb1⟩; obtain ⟨g0, g1⟩ := Hcells.out w1 hb1; have hz1 := hb1.size)
                | (go_at_call 134; refine (applied_ok _ F f cf B x.2 n (HF.out.below tenR_stays hb1) ((hs1.z wrR_stays).below wrR_stays hb1)).mono ?_; rintro e w2 ⟨F2, cf2, rfl, _, hs2, hb2⟩; have Hs2 := Lib.hid hs2; clear hs2))
              go_roundw
              case rel => exact ⟨k + 1, F2, cf2, by omega, by go_num, by rw [Hnx.out], by rw [Hnx.out]; exact Hs2.out.z tenR_stays, by rw [← Hval.out, Hstep.out, if_neg (by rw [Hz.out, H3.out]; decide)], (Hbel.out.next hb1 hbz).next hb2 (by omega)⟩
              case measure => simp [intOf]; omega
            · have b4 : ((appliedS (foldedS l k) l[k].2).2 != 0) = true := by simpa using h3
              have H3 := Lib.hid h3
              clear h3
              generalize l[k] = x at *
              generalize foldedS l k = f at *
              go_wp2_with (first
                | (go_at_call 92; refine (commitFault_ok _ B x.1 x.2 n (hs1.z wrR_stays) h80).mono ?_; rintro e w1 ⟨rfl, hb1⟩; obtain ⟨g0, g1⟩ := Hcells.out w1 hb1; have hz1 := hb1.size)
                | (go_at_call 134; refine (applied_ok _ F f cf B x.2 n (HF.out.below tenR_stays hb1) ((hs1.z wrR_stays).below wrR_stays hb1)).mono ?_; rintro e w2 ⟨F2, cf2, rfl, _, hs2, hb2⟩; clear hs2))
              go_ret
              exact ⟨ret_int (by rw [← Hval.out, Hstep.out, if_pos (by rw [Hz.out]; exact H3.out), Hz.out]), (Hbel.out.next hb1 hbz).next hb2 (by omega)⟩
          · have Hz := Lib.hid (histAt_turn hlt h1 h2)
            have b3 : (l[k].1 != (k : Int) + 1) = true := by simpa using h2
            clear h1 h2
            generalize l[k] = x at *
            go_wp2_with (go_at_call 92; refine (commitFault_ok _ B x.1 x.2 n (hs1.z wrR_stays) h80).mono ?_; rintro e w1 ⟨rfl, hb1⟩; obtain ⟨g0, g1⟩ := Hcells.out w1 hb1; have hz1 := hb1.size)
            go_ret
            exact ⟨ret_int (by rw [← Hval.out, Hstep.out, if_pos (by rw [Hz.out]; decide), Hz.out]), Hbel.out.next hb1 hbz⟩
        · have Hz := Lib.hid (histAt_bad hlt h1)
          have H1 := Lib.hid h1
          have b1 : (commitFaultS l[k] == 0) = false := by simpa using h1
          have b2 : (commitFaultS l[k] != 0) = true := by simpa using h1
          clear h1
          generalize l[k] = x at *
          go_wp2_with (go_at_call 92; refine (commitFault_ok _ B x.1 x.2 n (hs1.z wrR_stays) h80).mono ?_; rintro e w1 ⟨rfl, hb1⟩; obtain ⟨g0, g1⟩ := Hcells.out w1 hb1; have hz1 := hb1.size)
          go_ret
          exact ⟨ret_int (by rw [← Hval.out, Hstep.out, if_pos (by rw [Hz.out]; exact H1.out), Hz.out]), Hbel.out.next hb1 hbz⟩
      · obtain rfl : k = l.length := by omega
        have hfin := Hval.out
        rw [Nat.sub_self] at hfin
        have Hfin := Lib.hid hfin
        clear hfin
        go_wp2
        go_ret
        exact ⟨ret_int (by rw [← Hfin.out]; rfl), Hbel.out⟩
set_option maxRecDepth 100000 in
set_option maxHeartbeats 1000000 in
theorem refFolded_ok (w : World) (A : Option Addr) (l : List Cm) (c : Nat) (t : Nat) (ha : Cs All w A l) (ht : t ≤ l.length) (h3 : l.length ≤ 300) :
    Calls Tryd.prog 104 #[.slice A l.length c, .int .i64 t] w (RetSL 2 TenR w (foldedS l t)) := by
  have Ha := Lib.hid ha
  clear ha
  go_enter Tryd.func104, Tryd.ntmps104
  go_wp2
  go_loopw [5, 6] (fun v i wr => ∃ (k : Nat) (F : Option Addr) (cf : Nat), k ≤ t ∧ i = .int .i64 k ∧ v = .slice F (foldedS l k).length cf ∧ Ts (From w.heap.size) wr F (foldedS l k) ∧ Below w.heap.size w wr) (fun _ i _ => t - (intOf i).toNat)
  case atStart => exact ⟨0, none, 0, by omega, rfl, rfl, SL.nil, Below.refl _ _⟩
  case round =>
    obtain ⟨k, F, cf, hk, rfl, rfl, hf, hbel⟩ := hrel
    have Hbel := Lib.hid hbel
    have HF := Lib.hid hf
    have hbz := hbel.size
    clear hbel hf
    by_cases hlt : k < t
    · have hkl : k < l.length := by omega
      have Hnx := Lib.hid (foldedS_next hkl)
      obtain ⟨g, off, B, n, rfl, _, hal, hc1, hc2, hs1, h80⟩ := cms_at (Ha.out.below cmR_stays Hbel.out) hkl
      generalize l[k] = x at *
      generalize foldedS l k = f at *
      go_wp2_with (go_at_call 134; refine (applied_ok _ F f cf B x.2 n (HF.out.z tenR_stays) (hs1.z wrR_stays)).mono ?_; rintro e w2 ⟨F2, cf2, rfl, _, hs2, hb2⟩; have Hs2 := Lib.hid hs2; clear hs2)
      go_roundw
      case rel => exact ⟨k + 1, F2, cf2, by omega, by go_num, by rw [Hnx.out], by rw [Hnx.out]; exact Hs2.out.lo tenR_stays hbz, Hbel.out.next hb2 hbz⟩
      case measure => simp [intOf]; omega
    · obtain rfl : k = t := by omega
      go_wp2
      go_ret
      exact ⟨F, cf, rfl, HF.out, Hbel.out⟩
/-- What Fold and FoldOf answer. -/
def foldS (l : List Cm) (t : Int) : List Tn × Int := if histFaultS l ≠ 0 then ([], histFaultS l) else if ¬ (0 ≤ t ∧ t ≤ l.length) then ([], 2) else (foldedS l t.toNat, 0)
/-- The call returns tenants and a number. -/
def RetTEb (w : World) (r : List Tn × Int) (e : Ending) (w' : World) : Prop :=
  ∃ A c, e = .returned (.tuple #[.slice A r.1.length c, .int .i64 r.2]) ∧ Ts (From w.heap.size) w' A r.1 ∧ Below w.heap.size w w'
theorem hist_len {l : List Cm} (h : histFaultS l = 0) : l.length ≤ 300 := by
  unfold histFaultS at h
  split at h
  · cases h
  · omega
set_option maxRecDepth 100000 in
set_option maxHeartbeats 1000000 in
theorem foldOf_ok (w : World) (A : Option Addr) (l : List Cm) (c : Nat) (t : Int) (ha : Cs All w A l) :
    Calls Tryd.prog 63 #[.slice A l.length c, .int .i64 t] w (RetTEb w (foldS l t)) := by
  have Ha := Lib.hid ha
  clear ha
  by_cases h1 : histFaultS l = 0
  · have b1 : (histFaultS l == 0) = true := by simp [h1]
    have b1' : (histFaultS l != 0) = false := by simp [h1]
    have hl := hist_len h1
    by_cases h2 : 0 ≤ t ∧ t ≤ l.length
    · have Hv := Lib.hid (show foldS l t = (foldedS l t.toNat, 0) by unfold foldS; rw [if_neg (by simpa using h1), if_neg (by simpa using h2)])
      have b2 : (decide ((0 : Int) ≤ t) && decide (t ≤ (l.length : Int))) = true := by simp [h2]
      obtain ⟨m, rfl⟩ := Int.eq_ofNat_of_zero_le h2.1
      rw [Int.toNat_natCast] at Hv
      have hm : m ≤ l.length := by omega
      have H1 := Lib.hid h1
      clear h1 h2
      go_enter Tryd.func63, Tryd.ntmps63
      go_wp2_with (first
        | (go_at_call 103; refine (histFault_ok _ A l c Ha.out).mono ?_; rintro e w1 ⟨rfl, hb1⟩; rw [H1.out])
        | (go_at_call 72; refine (in_ok _ _ _ _).mono ?_; rintro e w' ⟨rfl, rfl⟩)
        | (go_at_call 104; refine (refFolded_ok _ A l c m (Ha.out.below cmR_stays hb1) hm hl).mono ?_; rintro e w2 ⟨F, cf, rfl, hs2, hb2⟩; have Hs2 := Lib.hid hs2; clear hs2))
      go_ret2
      rw [Hv.out]
      exact ⟨F, cf, rfl, Hs2.out.lo tenR_stays hb1.size, hb1.next hb2 hb1.size⟩
    · have Hv := Lib.hid (show foldS l t = ([], 2) by unfold foldS; rw [if_neg (by simpa using h1), if_pos h2])
      have b2 : (decide ((0 : Int) ≤ t) && decide (t ≤ (l.length : Int))) = false := by
        rw [Bool.and_eq_false_iff, decide_eq_false_iff_not, decide_eq_false_iff_not]; omega
      have H1 := Lib.hid h1
      clear h1 h2
      go_enter Tryd.func63, Tryd.ntmps63
      go_wp2_with (first
        | (go_at_call 103; refine (histFault_ok _ A l c Ha.out).mono ?_; rintro e w1 ⟨rfl, hb1⟩; rw [H1.out])
        | (go_at_call 72; refine (in_ok _ _ _ _).mono ?_; rintro e w' ⟨rfl, rfl⟩))
      go_ret2
      rw [Hv.out]
      exact ⟨none, 0, rfl, SL.nil, hb1⟩
  · have b1 : (histFaultS l == 0) = false := by simpa using h1
    have b1' : (histFaultS l != 0) = true := by simpa using h1
    have Hv := Lib.hid (show foldS l t = ([], histFaultS l) by unfold foldS; rw [if_pos h1])
    clear h1
    go_enter Tryd.func63, Tryd.ntmps63
    go_wp2_with (go_at_call 103; refine (histFault_ok _ A l c Ha.out).mono ?_; rintro e w1 ⟨rfl, hb1⟩)
    go_ret2
    rw [Hv.out]
    exact ⟨none, 0, rfl, SL.nil, hb1⟩
/-- What the program's folded has behind so many rounds for the forest that is asked for. -/
def outS (l : List Cm) (t : Int) (k : Nat) : List Tn := if 1 ≤ t ∧ t ≤ k then foldedS l t.toNat else []
theorem outS_here {l : List Cm} {t : Int} {k : Nat} (h : (k : Int) + 1 = t) : outS l t (k + 1) = foldedS l (k + 1) := by
  unfold outS
  rw [if_pos (by omega)]
  congr 1
  omega
theorem outS_there {l : List Cm} {t : Int} {k : Nat} (h : (k : Int) + 1 ≠ t) : outS l t (k + 1) = outS l t k := by
  unfold outS
  by_cases h1 : 1 ≤ t ∧ t ≤ (k : Int)
  · rw [if_pos h1, if_pos (by omega)]
  · rw [if_neg h1, if_neg (by omega)]
def foldedES (l : List Cm) (t : Int) : List Tn × Int := if histFaultS l ≠ 0 then ([], histFaultS l) else (outS l t l.length, 0)
set_option maxRecDepth 100000 in
set_option maxHeartbeats 1000000 in
theorem histFolded_ok (w : World) (A : Option Addr) (l : List Cm) (c : Nat) (t : Int) (ha : Cs All w A l) :
    Calls Tryd.prog 102 #[.slice A l.length c, .int .i64 t] w (RetTEb w (foldedES l t)) := by
  have Ha := Lib.hid ha
  clear ha
  by_cases hbig : 300 < l.length
  · have hh : histFaultS l = 1 := by simp [histFaultS, hbig]
    have Hv := Lib.hid (show foldedES l t = ([], 1) by unfold foldedES; rw [hh, if_pos (by decide)])
    clear hh
    go_enter Tryd.func102, Tryd.ntmps102
    go_wp2
    go_ret2
    rw [Hv.out]
    exact ⟨none, 0, rfl, SL.nil, Below.refl _ _⟩
  · have Hv := Lib.hid (show histFaultS l = firstBad (histAt l) l.length 0 by simp [histFaultS, hbig])
    have h300 : decide (300 < (l.length : Int)) = false := by rw [decide_eq_false_iff_not]; omega
    go_enter Tryd.func102, Tryd.ntmps102
    go_wp2
    clear h300
    go_loopw [6, 7, 18] (fun v u i wr => ∃ (k : Nat) (F : Option Addr) (cf : Nat) (O : Option Addr) (co : Nat), k ≤ l.length ∧ i = .int .i64 k ∧ v = .slice F (foldedS l k).length cf ∧ Ts All wr F (foldedS l k) ∧ u = .slice O (outS l t k).length co ∧ Ts (From w.heap.size) wr O (outS l t k) ∧ firstBad (histAt l) (l.length - k) k = histFaultS l ∧ Below w.heap.size w wr) (fun _ _ i _ => l.length - (intOf i).toNat)
    case atStart => exact ⟨0, none, 0, none, 0, by omega, rfl, rfl, SL.nil, by unfold outS; rw [if_neg (by omega)]; rfl, by unfold outS; rw [if_neg (by omega)]; exact SL.nil, by rw [Hv.out]; rfl, Below.refl _ _⟩
    case round =>
      obtain ⟨k, F, cf, O, co, hk, rfl, rfl, hf, rfl, ho, hval, hbel⟩ := hrel
      have Hbel := Lib.hid hbel
      have Hval := Lib.hid hval
      have HF := Lib.hid hf
      have HO := Lib.hid ho
      have hbz := hbel.size
      clear hbel hval hf ho
      by_cases hlt : k < l.length
      · have Hstep := Lib.hid (firstBad_at (histAt l) hlt)
        have Hnx := Lib.hid (foldedS_next hlt)
        obtain ⟨g, off, B, n, rfl, _, hal, hc1, hc2, hs1, h80⟩ := cms_at (Ha.out.below cmR_stays Hbel.out) hlt
        have hw1 : IntKind.i64.wrap ((k : Int) + 1) = (k : Int) + 1 := by rw [IntKind.wrap_i64]; omega
        have Hbad := Lib.hid (show ∀ e : Int, e ≠ 0 → histFaultS l = e → foldedES l t = ([], e) from fun e h1 h2 => by unfold foldedES; rw [h2, if_pos h1])
        have Hcx := Lib.hid (show ∀ W, Below (wr.heap.size + 1) (wr.alloc (.cells #[.int .i64 l[k].1, .slice B l[k].2.length n] 48)) W → W.cell? ⟨wr.heap.size, 0, none⟩ = some (.int .i64 l[k].1) ∧ W.cell? ⟨wr.heap.size, 1, none⟩ = some (.slice B l[k].2.length n) ∧ Below wr.heap.size wr W ∧ wr.heap.size + 1 ≤ W.heap.size from fun W hW => by
          obtain ⟨g0, g1, _, _⟩ := box2 ((hW.block _ (by omega)).trans (box_new wr _ _))
          exact ⟨g0, g1, ((Below.refl wr.heap.size wr).alloc (Nat.le_refl _) _).trans (hW.mono (by omega)), by simpa using hW.size⟩)
        by_cases h1 : commitFaultS l[k] = 0
        · have b2 : (commitFaultS l[k] != 0) = false := by simp [h1]
          by_cases h2 : l[k].1 = (k : Int) + 1
          · have Hz := Lib.hid (histAt_apply hlt h1 h2)
            have b3 : (l[k].1 != (k : Int) + 1) = false := by simp [h2]
            clear h1 h2
            by_cases h3 : (appliedS (foldedS l k) l[k].2).2 = 0
            · have b4 : ((appliedS (foldedS l k) l[k].2).2 != 0) = false := by simp [h3]
              have H3 := Lib.hid h3
              clear h3
              by_cases h4 : (k : Int) + 1 = t
              · have b5 : ((k : Int) + 1 == t) = true := by simpa using h4
                have Hout := Lib.hid (outS_here (l := l) h4)
                clear h4
                generalize l[k] = x at *
                generalize foldedS l k = f at *
                go_wp2_with (first
                  | (go_at_call 88; refine (tapeCheck_ok _ B x.1 x.2 n ((hs1.z wrR_stays).below wrR_stays ((Below.refl _ _).alloc (Nat.le_refl _) _)) h80).mono ?_; rintro e w1 ⟨rfl, hb1'⟩; have hb1 := hb1'.mono (show wr.heap.size + 1 ≤ _ by simp); obtain ⟨g0, g1, hbw, hz1⟩ := Hcx.out w1 hb1)
                  | (go_at_call 127; refine (forestApply_ok _ F f cf B x.2 n (HF.out.below tenR_stays hbw) ((hs1.z wrR_stays).below wrR_stays hbw)).mono ?_; rintro e w2 ⟨F2, cf2, rfl, _, hs2, hb2⟩; have Hs2 := Lib.hid hs2; clear hs2))
                go_roundw
                case rel => exact ⟨k + 1, F2, cf2, F2, cf2, by omega, by go_num, by rw [Hnx.out], by rw [Hnx.out]; exact Hs2.out.z tenR_stays, by rw [Hout.out, Hnx.out], by rw [Hout.out, Hnx.out]; exact Hs2.out.lo tenR_stays (by omega), by rw [← Hval.out, Hstep.out, if_neg (by rw [Hz.out, H3.out]; decide)], (Hbel.out.next hbw hbz).next hb2 (by omega)⟩
                case measure => simp [intOf]; omega
              · have b5 : ((k : Int) + 1 == t) = false := by simpa using h4
                have Hout := Lib.hid (outS_there (l := l) h4)
                clear h4
                generalize l[k] = x at *
                generalize foldedS l k = f at *
                go_wp2_with (first
                  | (go_at_call 88; refine (tapeCheck_ok _ B x.1 x.2 n ((hs1.z wrR_stays).below wrR_stays ((Below.refl _ _).alloc (Nat.le_refl _) _)) h80).mono ?_; rintro e w1 ⟨rfl, hb1'⟩; have hb1 := hb1'.mono (show wr.heap.size + 1 ≤ _ by simp); obtain ⟨g0, g1, hbw, hz1⟩ := Hcx.out w1 hb1)
                  | (go_at_call 127; refine (forestApply_ok _ F f cf B x.2 n (HF.out.below tenR_stays hbw) ((hs1.z wrR_stays).below wrR_stays hbw)).mono ?_; rintro e w2 ⟨F2, cf2, rfl, _, hs2, hb2⟩; have Hs2 := Lib.hid hs2; clear hs2))
                go_roundw
                case rel => exact ⟨k + 1, F2, cf2, O, co, by omega, by go_num, by rw [Hnx.out], by rw [Hnx.out]; exact Hs2.out.z tenR_stays, by rw [Hout.out], by rw [Hout.out]; exact (HO.out.below tenR_stays hbw).below tenR_stays hb2, by rw [← Hval.out, Hstep.out, if_neg (by rw [Hz.out, H3.out]; decide)], (Hbel.out.next hbw hbz).next hb2 (by omega)⟩
                case measure => simp [intOf]; omega
            · have b4 : ((appliedS (foldedS l k) l[k].2).2 != 0) = true := by simpa using h3
              have H3 := Lib.hid h3
              clear h3
              generalize l[k] = x at *
              generalize foldedS l k = f at *
              go_wp2_with (first
                | (go_at_call 88; refine (tapeCheck_ok _ B x.1 x.2 n ((hs1.z wrR_stays).below wrR_stays ((Below.refl _ _).alloc (Nat.le_refl _) _)) h80).mono ?_; rintro e w1 ⟨rfl, hb1'⟩; have hb1 := hb1'.mono (show wr.heap.size + 1 ≤ _ by simp); obtain ⟨g0, g1, hbw, hz1⟩ := Hcx.out w1 hb1)
                | (go_at_call 127; refine (forestApply_ok _ F f cf B x.2 n (HF.out.below tenR_stays hbw) ((hs1.z wrR_stays).below wrR_stays hbw)).mono ?_; rintro e w2 ⟨F2, cf2, rfl, _, hs2, hb2⟩; clear hs2))
              go_ret2
              rw [Hbad.out _ H3.out (by rw [← Hval.out, Hstep.out, if_pos (by rw [Hz.out]; exact H3.out), Hz.out])]
              exact ⟨none, 0, rfl, SL.nil, (Hbel.out.next hbw hbz).next hb2 (by omega)⟩
          · have Hz := Lib.hid (histAt_turn hlt h1 h2)
            have b3 : (l[k].1 != (k : Int) + 1) = true := by simpa using h2
            clear h1 h2
            generalize l[k] = x at *
            go_wp2_with (go_at_call 88; refine (tapeCheck_ok _ B x.1 x.2 n ((hs1.z wrR_stays).below wrR_stays ((Below.refl _ _).alloc (Nat.le_refl _) _)) h80).mono ?_; rintro e w1 ⟨rfl, hb1'⟩; have hb1 := hb1'.mono (show wr.heap.size + 1 ≤ _ by simp); obtain ⟨g0, g1, hbw, hz1⟩ := Hcx.out w1 hb1)
            go_ret2
            rw [Hbad.out 3 (by decide) (by rw [← Hval.out, Hstep.out, if_pos (by rw [Hz.out]; decide), Hz.out])]
            exact ⟨none, 0, rfl, SL.nil, Hbel.out.next hbw hbz⟩
        · have Hz := Lib.hid (histAt_bad hlt h1)
          have H1 := Lib.hid h1
          have b2 : (commitFaultS l[k] != 0) = true := by simpa using h1
          clear h1
          generalize l[k] = x at *
          go_wp2_with (go_at_call 88; refine (tapeCheck_ok _ B x.1 x.2 n ((hs1.z wrR_stays).below wrR_stays ((Below.refl _ _).alloc (Nat.le_refl _) _)) h80).mono ?_; rintro e w1 ⟨rfl, hb1'⟩; have hb1 := hb1'.mono (show wr.heap.size + 1 ≤ _ by simp); obtain ⟨g0, g1, hbw, hz1⟩ := Hcx.out w1 hb1)
          go_ret2
          rw [Hbad.out _ H1.out (by rw [← Hval.out, Hstep.out, if_pos (by rw [Hz.out]; exact H1.out), Hz.out])]
          exact ⟨none, 0, rfl, SL.nil, Hbel.out.next hbw hbz⟩
      · obtain rfl : k = l.length := by omega
        have hfin := Hval.out
        rw [Nat.sub_self] at hfin
        have Hgood := Lib.hid (show foldedES l t = (outS l t l.length, 0) by unfold foldedES; rw [← hfin]; rfl)
        clear hfin
        go_wp2
        go_ret2
        rw [Hgood.out]
        exact ⟨O, co, rfl, HO.out, Hbel.out⟩
end Go.Proofs.YteacjkihjeiafaaDoor
namespace Go.Proofs.YteacjkihjeiafaaDoor
open Go.RowKit
set_option linter.unusedVariables false
set_option linter.unusedSimpArgs false

theorem outS_end {l : List Cm} {t : Int} (h : 0 ≤ t ∧ t ≤ l.length) : outS l t l.length = foldedS l t.toNat := by
  unfold outS
  by_cases h1 : 1 ≤ t
  · rw [if_pos ⟨h1, h.2⟩]
  · rw [if_neg (by omega)]
    obtain rfl : t = 0 := by omega
    rfl
set_option maxRecDepth 100000 in
set_option maxHeartbeats 1000000 in
theorem historyFold_ok (w : World) (A : Option Addr) (l : List Cm) (c : Nat) (t : Int) (ha : Cs All w A l) :
    Calls Tryd.prog 61 #[.slice A l.length c, .int .i64 t] w (RetTEb w (foldS l t)) := by
  have Ha := Lib.hid ha
  clear ha
  by_cases h1 : histFaultS l = 0
  · have Hf := Lib.hid (show foldedES l t = (outS l t l.length, 0) by unfold foldedES; rw [if_neg (by simpa using h1)])
    by_cases h2 : 0 ≤ t ∧ t ≤ l.length
    · have Hv := Lib.hid (show foldS l t = (outS l t l.length, 0) by unfold foldS; rw [if_neg (by simpa using h1), if_neg (by simpa using h2), outS_end h2])
      have b1 : decide (t < 0) = false := by rw [decide_eq_false_iff_not]; omega
      have b2 : decide ((l.length : Int) < t) = false := by rw [decide_eq_false_iff_not]; omega
      clear h1 h2
      go_enter Tryd.func61, Tryd.ntmps61
      go_wp2_with (go_at_call 102; refine (histFolded_ok _ A l c _ Ha.out).mono ?_; rw [Hf.out]; rintro e w1 ⟨F, cf, rfl, hs1, hb1⟩; have Hs1 := Lib.hid hs1; clear hs1)
      go_ret2
      rw [Hv.out]
      exact ⟨F, cf, rfl, Hs1.out, hb1⟩
    · have Hv := Lib.hid (show foldS l t = ([], 2) by unfold foldS; rw [if_neg (by simpa using h1), if_pos h2])
      by_cases h3 : t < 0
      · have b1 : decide (t < 0) = true := by rw [decide_eq_true_eq]; exact h3
        clear h1 h2 h3
        go_enter Tryd.func61, Tryd.ntmps61
        go_wp2_with (go_at_call 102; refine (histFolded_ok _ A l c _ Ha.out).mono ?_; rw [Hf.out]; rintro e w1 ⟨F, cf, rfl, hs1, hb1⟩; clear hs1)
        go_ret2
        rw [Hv.out]
        exact ⟨none, 0, rfl, SL.nil, hb1⟩
      · have b1 : decide (t < 0) = false := by rw [decide_eq_false_iff_not]; exact h3
        have b2 : decide ((l.length : Int) < t) = true := by rw [decide_eq_true_eq]; omega
        clear h1 h2 h3
        go_enter Tryd.func61, Tryd.ntmps61
        go_wp2_with (go_at_call 102; refine (histFolded_ok _ A l c _ Ha.out).mono ?_; rw [Hf.out]; rintro e w1 ⟨F, cf, rfl, hs1, hb1⟩; clear hs1)
        go_ret2
        rw [Hv.out]
        exact ⟨none, 0, rfl, SL.nil, hb1⟩
  · have Hf := Lib.hid (show foldedES l t = ([], histFaultS l) by unfold foldedES; rw [if_pos h1])
    have b1 : (histFaultS l != 0) = true := by simpa using h1
    have Hv := Lib.hid (show foldS l t = ([], histFaultS l) by unfold foldS; rw [if_pos h1])
    clear h1
    go_enter Tryd.func61, Tryd.ntmps61
    go_wp2_with (go_at_call 102; refine (histFolded_ok _ A l c _ Ha.out).mono ?_; rw [Hf.out]; rintro e w1 ⟨F, cf, rfl, hs1, hb1⟩; clear hs1)
    go_ret2
    rw [Hv.out]
    exact ⟨none, 0, rfl, SL.nil, hb1⟩
theorem appliedS_len (f : List Tn) (ws : List Wr) : (appliedS f ws).1.length ≤ 8 := (ten_fine (appliedS_fine f ws)).1
theorem foldedS_len (l : List Cm) (n : Nat) : (foldedS l n).length ≤ 8 := (ten_fine (foldedS_fine l n)).1
theorem foldS_len (l : List Cm) (t : Int) : (foldS l t).1.length ≤ 8 := by
  unfold foldS
  split
  · simp
  · split
    · simp
    · exact foldedS_len _ _
end Go.Proofs.YteacjkihjeiafaaDoor
