/- Walks: forest.Apply, Applied; tenants held against each other. -/
import Derived.Test.YthhcdibimnifaaaFWrite
import Derived.Test.YthhcdibimnifaaaWritten
import Derived.Test.YthhcdibimnifaaaTenOwn
import Derived.Test.YthhcdibimnifaaaFGetLaw
namespace Go.Proofs.Ythhcdibimnifaaa
open Go.RowKit
set_option linter.unusedVariables false
set_option linter.unusedSimpArgs false

def applyAll : List Wr → List Tn → List Tn × Int
  | [], l => (l, 0)
  | x :: xs, l => if (writeS l x).2 ≠ 0 then ([], (writeS l x).2) else applyAll xs (writeS l x).1
/-- What forest.Apply and Applied answer. -/
def appliedS (l : List Tn) (ws : List Wr) : List Tn × Int := if forestFaultS l ≠ 0 then ([], forestFaultS l) else if 10 < ws.length then ([], 1) else applyAll ws l
theorem applyAll_fine : ∀ (ws : List Wr) (l : List Tn), Fine l → Fine (applyAll ws l).1
  | [], _, h => h
  | x :: xs, l, h => by
    unfold applyAll
    by_cases h1 : (writeS l x).2 = 0
    · rw [if_neg (by simpa using h1)]
      exact applyAll_fine xs _ (writeS_fine h h1)
    · rw [if_pos h1]
      rfl
theorem appliedS_fine (l : List Tn) (ws : List Wr) : Fine (appliedS l ws).1 := by
  unfold appliedS
  by_cases h : forestFaultS l = 0
  · rw [if_neg (by simpa using h)]
    split
    · rfl
    · exact applyAll_fine ws l h
  · rw [if_pos h]
    rfl
theorem Fine.len {l : List Tn} (h : Fine l) : l.length ≤ 8 := ((ten_fault_iff l).1 h).1
theorem applyAll_bad {ws : List Wr} {l : List Tn} {k : Nat} (hk : k < ws.length) (h : (writeS l ws[k]).2 ≠ 0) : applyAll (ws.drop k) l = ([], (writeS l ws[k]).2) := by
  rw [List.drop_eq_getElem_cons hk]
  unfold applyAll
  rw [if_pos h]
theorem applyAll_next {ws : List Wr} {l : List Tn} {k : Nat} (hk : k < ws.length) (h : (writeS l ws[k]).2 = 0) : applyAll (ws.drop k) l = applyAll (ws.drop (k + 1)) (writeS l ws[k]).1 := by
  rw [List.drop_eq_getElem_cons hk]
  conv => lhs; unfold applyAll
  rw [if_neg (by simpa using h)]
set_option maxRecDepth 100000 in
set_option maxHeartbeats 1000000 in
theorem forestApply_ok (w : World) (A : Option Addr) (l : List Tn) (c : Nat) (B : Option Addr) (ws : List Wr) (d : Nat) (ha : Ts All w A l) (hw : Ws All w B ws) :
    Calls Try.prog 44 #[.slice A l.length c, .slice B ws.length d] w (RetTE w (appliedS l ws)) := by
  have Ha := Lib.hid ha
  have Hw := Lib.hid hw
  clear ha hw
  by_cases h1 : forestFaultS l = 0
  · have b1 : (forestFaultS l != 0) = false := by simp [h1]
    have Hfine := Lib.hid (show Fine l from h1)
    have hl8 := (show Fine l from h1).len
    by_cases h2 : 10 < ws.length
    · have Hv := Lib.hid (show appliedS l ws = ([], 1) by unfold appliedS; rw [if_neg (by simpa using h1), if_pos h2])
      clear h1
      go_enter Try.func44, Try.ntmps44
      go_wp2_with (go_at_call 36; refine (forestCheck_ok _ A l c Ha.out).mono ?_; rintro e w1 ⟨rfl, hb1⟩)
      go_ret2
      rw [Hv.out]
      exact ⟨none, 0, rfl, Nat.le_refl _, SL.nil, hb1⟩
    · have Hv := Lib.hid (show appliedS l ws = applyAll ws l by unfold appliedS; rw [if_neg (by simpa using h1), if_neg h2])
      have b2 : decide ((10 : Int) < (ws.length : Int)) = false := by rw [decide_eq_false_iff_not]; omega
      clear h1
      go_enter Try.func44, Try.ntmps44
      go_wp2_with (go_at_call 36; refine (forestCheck_ok _ A l c Ha.out).mono ?_; rintro e w1 ⟨rfl, hb1⟩)
      have Hb1 := Lib.hid hb1
      have hz1 := hb1.size
      clear hb1 b1
      refine (forestOwn_own _ A l c (Ha.out.below tenR_stays Hb1.out) (by omega)).mono ?_
      rintro e w2 ⟨v2, rfl, hown2, hb2⟩
      have Hown2 := Lib.hid hown2
      have Hb2 := Lib.hid hb2
      clear hown2 hb2
      go_wp2_with fail
      clear b2
      go_loopw [7, 24] (fun v i wr => ∃ (k : Nat) (cur : List Tn), k ≤ ws.length ∧ i = .int .i64 k ∧ applyAll (ws.drop k) cur = applyAll ws l ∧ Fine cur ∧ Own 2 TenR (From w1.heap.size) wr w1.heap.size 122 v cur ∧ Below w1.heap.size w1 wr) (fun _ i _ => ws.length - (intOf i).toNat)
      case atStart => exact ⟨0, l, by omega, rfl, rfl, Hfine.out, Hown2.out, Hb2.out⟩
      case round =>
        obtain ⟨k, cur, hk, rfl, hval, hfc, hown, hbel⟩ := hrel
        have Hval := Lib.hid hval
        have Hfc := Lib.hid hfc
        have Hown := Lib.hid hown
        have Hbel := Lib.hid hbel
        have hbz := hbel.size
        have Hb0 := Lib.hid (Hb1.out.next hbel hz1)
        clear hval hfc hown hbel
        by_cases hlt : k < ws.length
        · obtain ⟨g, off, A1, a1, B1, b1, C1, c1, rfl, _, hal, hc1, hc2, hc3, hc4, hs1, hs2, hs3, hb1, hb2, hb3⟩ := wrs_at (Hw.out.below wrR_stays Hb0.out) hlt
          by_cases he : (writeS cur ws[k]).2 = 0
          · have Hnext := Lib.hid (applyAll_next hlt he)
            have Hfn := Lib.hid (writeS_fine Hfc.out he)
            have c1' : ((writeS cur ws[k]).2 != 0) = false := by simp [he]
            have He := Lib.hid he
            generalize ws[k] = x at *
            clear he
            go_wp2_with (go_at_call 111; refine (forestWrite_ok _ w1.heap.size _ cur A1 B1 C1 x a1 b1 c1 (Hown.out.below tenR_stays ((Below.refl _ _).alloc (Nat.le_refl _) _)) (by simp; omega) Hfc.out (hs1.bz.bbelow ((Below.refl _ _).alloc (Nat.le_refl _) _)) (hs2.bz.bbelow ((Below.refl _ _).alloc (Nat.le_refl _) _)) (hs3.bz.bbelow ((Below.refl _ _).alloc (Nat.le_refl _) _)) hb1).mono ?_; rintro e w3 ⟨v3, rfl, hown3, hb4⟩; have Hown3 := Lib.hid (hown3 He.out); clear hown3)
            go_roundw
            case rel => exact ⟨k + 1, _, by omega, by go_num, by rw [← Hval.out, Hnext.out], Hfn.out, Hown3.out, (Hbel.out.alloc (by omega) _).trans hb4⟩
            case measure => simp [intOf]; omega
          · have Hbad := Lib.hid (applyAll_bad hlt he)
            have c1' : ((writeS cur ws[k]).2 != 0) = true := by simpa using he
            generalize ws[k] = x at *
            clear he
            go_wp2_with (go_at_call 111; refine (forestWrite_ok _ w1.heap.size _ cur A1 B1 C1 x a1 b1 c1 (Hown.out.below tenR_stays ((Below.refl _ _).alloc (Nat.le_refl _) _)) (by simp; omega) Hfc.out (hs1.bz.bbelow ((Below.refl _ _).alloc (Nat.le_refl _) _)) (hs2.bz.bbelow ((Below.refl _ _).alloc (Nat.le_refl _) _)) (hs3.bz.bbelow ((Below.refl _ _).alloc (Nat.le_refl _) _)) hb1).mono ?_; rintro e w3 ⟨v3, rfl, hown3, hb4⟩; clear hown3)
            go_ret2
            rw [Hv.out, ← Hval.out, Hbad.out]
            exact ⟨none, 0, rfl, Nat.le_refl _, SL.nil, (Hb0.out.alloc (by omega) _).trans (hb4.mono hz1)⟩
        · obtain rfl : k = ws.length := by omega
          have Hfin := Lib.hid (show applyAll ws l = (cur, 0) by rw [← Hval.out, List.drop_length]; rfl)
          obtain ⟨A5, c5, rfl, hcc, hsl⟩ := Hown.out.readc tenR_stays
          have Hcc := Lib.hid hcc
          have Hsl := Lib.hid hsl
          clear hcc hsl
          go_wp2
          go_ret2
          rw [Hv.out, Hfin.out]
          exact ⟨A5, c5, rfl, Hcc.out, Hsl.out.lo tenR_stays hz1, Hb0.out⟩
  · have b1 : (forestFaultS l != 0) = true := by simpa using h1
    have Hv := Lib.hid (show appliedS l ws = ([], forestFaultS l) by unfold appliedS; rw [if_pos h1])
    clear h1
    go_enter Try.func44, Try.ntmps44
    go_wp2_with (go_at_call 36; refine (forestCheck_ok _ A l c Ha.out).mono ?_; rintro e w1 ⟨rfl, hb1⟩)
    go_ret2
    rw [Hv.out]
    exact ⟨none, 0, rfl, Nat.le_refl _, SL.nil, hb1⟩
set_option maxRecDepth 100000 in
set_option maxHeartbeats 1000000 in
theorem applied_ok (w : World) (A : Option Addr) (l : List Tn) (c : Nat) (B : Option Addr) (ws : List Wr) (d : Nat) (ha : Ts All w A l) (hw : Ws All w B ws) :
    Calls Try.prog 45 #[.slice A l.length c, .slice B ws.length d] w (RetTE w (appliedS l ws)) := by
  have Ha := Lib.hid ha
  have Hw := Lib.hid hw
  clear ha hw
  by_cases h1 : forestFaultS l = 0
  · have b1 : (forestFaultS l == 0) = true := by simp [h1]
    have b1' : (forestFaultS l != 0) = false := by simp [h1]
    have Hfine := Lib.hid (show Fine l from h1)
    have hl8 := (show Fine l from h1).len
    by_cases h2 : 10 < ws.length
    · have Hv := Lib.hid (show appliedS l ws = ([], 1) by unfold appliedS; rw [if_neg (by simpa using h1), if_pos h2])
      have b2 : decide ((10 : Int) < (ws.length : Int)) = true := by rw [decide_eq_true_eq]; omega
      clear h1
      go_enter Try.func45, Try.ntmps45
      go_wp2_with (go_at_call 38; refine (forestFault_ok _ A l c Ha.out).mono ?_; rintro e w1 ⟨rfl, hb1⟩)
      go_ret2
      rw [Hv.out]
      exact ⟨none, 0, rfl, Nat.le_refl _, SL.nil, hb1⟩
    · have Hv := Lib.hid (show appliedS l ws = applyAll ws l by unfold appliedS; rw [if_neg (by simpa using h1), if_neg h2])
      have b2 : decide ((10 : Int) < (ws.length : Int)) = false := by rw [decide_eq_false_iff_not]; omega
      clear h1
      go_enter Try.func45, Try.ntmps45
      go_wp2_with (go_at_call 38; refine (forestFault_ok _ A l c Ha.out).mono ?_; rintro e w1 ⟨rfl, hb1⟩)
      have Hb1 := Lib.hid hb1
      have hz1 := hb1.size
      clear hb1 b1 b1'
      refine (forestCopy_ok _ A l c (Ha.out.below tenR_stays Hb1.out) (by omega)).mono ?_
      rintro e w2 ⟨A2, c2, rfl, hcap2, hs2, hb2⟩
      have Hs2 := Lib.hid hs2
      have Hc2 := Lib.hid hcap2
      have Hb2 := Lib.hid hb2
      clear hs2 hb2 hcap2
      go_wp2_with fail
      clear b2
      go_loopw [7, 8] (fun v i wr => ∃ (k : Nat) (cur : List Tn) (A3 : Option Addr) (c3 : Nat), k ≤ ws.length ∧ i = .int .i64 k ∧ v = .slice A3 cur.length c3 ∧ cur.length ≤ c3 ∧ applyAll (ws.drop k) cur = applyAll ws l ∧ Fine cur ∧ Ts (From w1.heap.size) wr A3 cur ∧ Below w1.heap.size w1 wr) (fun _ i _ => ws.length - (intOf i).toNat)
      case atStart => exact ⟨0, l, A2, c2, by omega, rfl, rfl, Hc2.out, rfl, Hfine.out, Hs2.out, Hb2.out⟩
      case round =>
        obtain ⟨k, cur, A3, c3, hk, rfl, rfl, hcap3, hval, hfc, hs3, hbel⟩ := hrel
        have Hval := Lib.hid hval
        have Hfc := Lib.hid hfc
        have Hs3 := Lib.hid hs3
        have Hcap3 := Lib.hid hcap3
        have Hbel := Lib.hid hbel
        have hbz := hbel.size
        have Hb0 := Lib.hid (Hb1.out.next hbel hz1)
        have hc8 := hfc.len
        clear hval hfc hs3 hbel hcap3
        by_cases hlt : k < ws.length
        · obtain ⟨g, off, A1, a1, B1, b1, C1, c1, rfl, _, hal, hc1, hc2, hc3, hc4, hs1, hs2, hs3, hb1, hb2, hb3⟩ := wrs_at (Hw.out.below wrR_stays Hb0.out) hlt
          have Hcells := Lib.hid (show ∀ W, Below wr.heap.size wr W → W.cell? ⟨g, off + k * 4, none⟩ = some (.slice A1 ws[k].name.length a1) ∧ W.cell? ⟨g, off + k * 4 + 1, none⟩ = some (.slice B1 ws[k].key.length b1) ∧ W.cell? ⟨g, off + k * 4 + 2, none⟩ = some (.bool ws[k].flag) ∧ W.cell? ⟨g, off + k * 4 + 3, none⟩ = some (.slice C1 ws[k].value.length c1) from fun W hW => ⟨(hW.cell hal).trans hc1, (hW.cell hal).trans hc2, (hW.cell hal).trans hc3, (hW.cell hal).trans hc4⟩)
          by_cases hwf : writeFaultS ws[k] = 0
          · have Hws := Lib.hid (show writeS cur ws[k] = writtenS cur ws[k] by unfold writeS; rw [if_neg (by simpa using hwf)])
            have d1 : (writeFaultS ws[k] != 0) = false := by simp [hwf]
            by_cases he : (writtenS cur ws[k]).2 = 0
            · have he' : (writeS cur ws[k]).2 = 0 := by rw [Hws.out]; exact he
              have Hnext := Lib.hid (applyAll_next hlt he')
              have Hfn := Lib.hid (writeS_fine Hfc.out he')
              have d2 : ((writtenS cur ws[k]).2 != 0) = false := by simp [he]
              generalize ws[k] = x at *
              clear he he' hwf
              go_wp2_with (first
                | (go_at_call 112; refine (writeFault_ok _ A1 B1 C1 x a1 b1 c1).mono ?_; rintro e w3 ⟨rfl, hb4⟩; obtain ⟨q1, q2, q3, q4⟩ := Hcells.out w3 hb4; have hz4 := hb4.size)
                | (go_at_call 113; refine (written_ok _ A3 cur c3 A1 B1 C1 x a1 b1 c1 ((Hs3.out.z tenR_stays).below tenR_stays hb4) (hs1.bz.bbelow hb4) (hs2.bz.bbelow hb4) (hs3.bz.bbelow hb4) hb1 hc8).mono ?_; rintro e w4 ⟨A5, c5, rfl, hcap5, hs5, hb5⟩; have Hs5 := Lib.hid hs5; have Hcap5 := Lib.hid hcap5; clear hs5 hcap5))
              go_roundw
              case rel => exact ⟨k + 1, (writtenS cur x).1, A5, c5, by omega, by go_num, rfl, Hcap5.out, by rw [← Hval.out, Hnext.out, Hws.out], by rw [← Hws.out]; exact Hfn.out, Hs5.out.lo tenR_stays (by omega), (Hbel.out.next hb4 hbz).next hb5 (by omega)⟩
              case measure => simp [intOf]; omega
            · have he' : (writeS cur ws[k]).2 ≠ 0 := by rw [Hws.out]; exact he
              have Hbad := Lib.hid (applyAll_bad hlt he')
              have d2 : ((writtenS cur ws[k]).2 != 0) = true := by simpa using he
              generalize ws[k] = x at *
              clear he he' hwf
              go_wp2_with (first
                | (go_at_call 112; refine (writeFault_ok _ A1 B1 C1 x a1 b1 c1).mono ?_; rintro e w3 ⟨rfl, hb4⟩; obtain ⟨q1, q2, q3, q4⟩ := Hcells.out w3 hb4; have hz4 := hb4.size)
                | (go_at_call 113; refine (written_ok _ A3 cur c3 A1 B1 C1 x a1 b1 c1 ((Hs3.out.z tenR_stays).below tenR_stays hb4) (hs1.bz.bbelow hb4) (hs2.bz.bbelow hb4) (hs3.bz.bbelow hb4) hb1 hc8).mono ?_; rintro e w4 ⟨A5, c5, rfl, hcap5, hs5, hb5⟩; clear hs5 hcap5))
              go_ret2
              rw [Hv.out, ← Hval.out, Hbad.out, Hws.out]
              exact ⟨none, 0, rfl, Nat.le_refl _, SL.nil, (Hb0.out.next hb4 (by omega)).next hb5 (by omega)⟩
          · have he' : (writeS cur ws[k]).2 = writeFaultS ws[k] := by unfold writeS; rw [if_pos hwf]
            have Hbad := Lib.hid (show applyAll (ws.drop k) cur = ([], writeFaultS ws[k]) by rw [applyAll_bad hlt (by rw [he']; exact hwf), he'])
            have d1 : (writeFaultS ws[k] != 0) = true := by simpa using hwf
            generalize ws[k] = x at *
            clear he' hwf
            go_wp2_with (go_at_call 112; refine (writeFault_ok _ A1 B1 C1 x a1 b1 c1).mono ?_; rintro e w3 ⟨rfl, hb4⟩)
            go_ret2
            rw [Hv.out, ← Hval.out, Hbad.out]
            exact ⟨none, 0, rfl, Nat.le_refl _, SL.nil, Hb0.out.next hb4 (by omega)⟩
        · obtain rfl : k = ws.length := by omega
          have Hfin := Lib.hid (show applyAll ws l = (cur, 0) by rw [← Hval.out, List.drop_length]; rfl)
          go_wp2
          go_ret2
          rw [Hv.out, Hfin.out]
          exact ⟨A3, c3, rfl, Hcap3.out, Hs3.out.lo tenR_stays hz1, Hb0.out⟩
  · have b1 : (forestFaultS l == 0) = false := by simpa using h1
    have b1' : (forestFaultS l != 0) = true := by simpa using h1
    have Hv := Lib.hid (show appliedS l ws = ([], forestFaultS l) by unfold appliedS; rw [if_pos h1])
    clear h1
    go_enter Try.func45, Try.ntmps45
    go_wp2_with (go_at_call 38; refine (forestFault_ok _ A l c Ha.out).mono ?_; rintro e w1 ⟨rfl, hb1⟩)
    go_ret2
    rw [Hv.out]
    exact ⟨none, 0, rfl, Nat.le_refl _, SL.nil, hb1⟩
end Go.Proofs.Ythhcdibimnifaaa
