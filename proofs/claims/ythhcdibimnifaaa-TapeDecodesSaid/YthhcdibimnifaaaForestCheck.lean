/- Walks: what is refused of tenants: forest.Check, ForestFault. -/
import Derived.Test.YthhcdibimnifaaaTen
import Derived.Test.YthhcdibimnifaaaKeyLaws
import Derived.Test.YthhcdibimnifaaaChunk
namespace Go.Proofs.Ythhcdibimnifaaa
open Go.RowKit
set_option linter.unusedVariables false
set_option linter.unusedSimpArgs false

def tenOne (t : Tn) : Int := if nameFault t.1 ≠ 0 then nameFault t.1 else if t.2.length = 0 then 4 else pairsFaultS t.2
def tenAt (l : List Tn) (i : Nat) : Int :=
  if tenOne (l.getD i ([], [])) ≠ 0 then tenOne (l.getD i ([], [])) else if 0 < i ∧ lt (l.getD (i - 1) ([], [])).1 (l.getD i ([], [])).1 = false then 3 else 0
/-- What forest.Check and ForestFault answer. -/
def forestFaultS (l : List Tn) : Int := if 8 < l.length then 1 else firstBad (tenAt l) l.length 0
theorem tenAt_bad {l : List Tn} {k : Nat} (hk : k < l.length) (h : tenOne l[k] ≠ 0) : tenAt l k = tenOne l[k] := by
  simp [tenAt, hk, h]
theorem tenAt_order {l : List Tn} {k : Nat} (hk : k + 1 < l.length) (h : tenOne l[k + 1] = 0) (ho : lt l[k].1 l[k + 1].1 = false) : tenAt l (k + 1) = 3 := by
  have hk' : k < l.length := by omega
  simp [tenAt, hk, hk', h, ho]
theorem tenAt_ok {l : List Tn} {k : Nat} (hk : k + 1 < l.length) (h : tenOne l[k + 1] = 0) (ho : lt l[k].1 l[k + 1].1 = true) : tenAt l (k + 1) = 0 := by
  have hk' : k < l.length := by omega
  simp [tenAt, hk, hk', h, ho]
theorem tenAt_zero {l : List Tn} (hk : 0 < l.length) (h : tenOne l[0] = 0) : tenAt l 0 = 0 := by
  simp [tenAt, hk, h]
theorem tenOne_name {t : Tn} (h : nameFault t.1 ≠ 0) : tenOne t = nameFault t.1 := by simp [tenOne, h]
theorem tenOne_none {t : Tn} (h : nameFault t.1 = 0) (h' : t.2.length = 0) : tenOne t = 4 := by simp only [tenOne]; rw [if_neg (by simpa using h), if_pos h']
theorem tenOne_pairs {t : Tn} (h : nameFault t.1 = 0) (h' : t.2.length ≠ 0) : tenOne t = pairsFaultS t.2 := by simp only [tenOne]; rw [if_neg (by simpa using h), if_neg h']


set_option maxRecDepth 100000 in
set_option maxHeartbeats 1000000 in
theorem forestFault_ok (w : World) (A : Option Addr) (l : List Tn) (c : Nat) (ha : Ts All w A l) :
    Calls Try.prog 38 #[.slice A l.length c] w (RetV w (.int .i64 (forestFaultS l))) := by
  have Ha := Lib.hid ha
  clear ha
  by_cases hbig : 8 < l.length
  · go_enter Try.func38, Try.ntmps38
    go_wp2
    go_ret
    exact ⟨ret_int (by simp [forestFaultS, hbig]), Below.refl _ _⟩
  · have Hv := Lib.hid (show forestFaultS l = firstBad (tenAt l) l.length 0 by simp [forestFaultS, hbig])
    have h60 : decide (8 < (l.length : Int)) = false := by simp; omega
    go_enter Try.func38, Try.ntmps38
    go_wp2
    clear h60
    go_loopw [3] (fun i wr => ∃ k : Nat, k ≤ l.length ∧ i = .int .i64 k ∧ firstBad (tenAt l) (l.length - k) k = forestFaultS l ∧ Below w.heap.size w wr) (fun i _ => l.length - (intOf i).toNat)
    case atStart => exact ⟨0, by omega, rfl, by rw [Hv.out]; rfl, Below.refl _ _⟩
    case round =>
      obtain ⟨k, hk, rfl, hval, hbel⟩ := hrel
      have Hbel := Lib.hid hbel
      have Hval := Lib.hid hval
      have hbz := hbel.size
      clear hbel hval
      by_cases hlt : k < l.length
      · have Hstep := Lib.hid (firstBad_at (tenAt l) hlt)
        obtain ⟨ab, ao, K, c1, V, d1, rfl, _, hal, hc1, hc2, hs1, hs2, _, _⟩ := tens_at (Ha.out.below tenR_stays Hbel.out) hlt
        by_cases h1 : nameFault l[k].1 = 0
        rotate_left
        · have Hone := Lib.hid (tenOne_name h1)
          have Hz := Lib.hid (tenAt_bad hlt (by rw [Hone.out]; exact h1))
          have Hne := Lib.hid h1
          have b1 : (nameFault l[k].1 != 0) = true := by simpa using h1
          have b2 : (nameFault l[k].1 == 0) = false := by simpa using h1
          clear h1
          generalize l[k] = x at *
          go_wp2_with (go_at_call 105; refine (nameFault_ok _ K x.1 c1).mono ?_; rintro e w0 ⟨rfl, rfl⟩)
          go_quiet (fail)
          go_wp2
          go_ret
          exact ⟨ret_int (by rw [← Hval.out, Hstep.out, Hz.out, if_pos (by rw [Hone.out]; first | exact Hne.out | decide), Hone.out]), below_drewN Hbel.out _⟩
        · have b1 : (nameFault l[k].1 != 0) = false := by simp [h1]
          have b2 : (nameFault l[k].1 == 0) = true := by simp [h1]
          by_cases h2 : l[k].2.length = 0
          · have Hone := Lib.hid (tenOne_none h1 h2)
            have Hz := Lib.hid (tenAt_bad hlt (by rw [Hone.out]; decide))
            have Hne := Lib.hid (show (4 : Int) ≠ 0 by decide)
            have b3 : ((l[k].2.length : Int) == 0) = true := by rw [beq_iff_eq]; omega
            clear h1 h2
            generalize l[k] = x at *
            go_wp2_with (go_at_call 105; refine (nameFault_ok _ K x.1 c1).mono ?_; rintro e w0 ⟨rfl, rfl⟩)
            go_quiet (fail)
            go_wp2
            go_ret
            exact ⟨ret_int (by rw [← Hval.out, Hstep.out, Hz.out, if_pos (by rw [Hone.out]; first | exact Hne.out | decide), Hone.out]), below_drewN Hbel.out _⟩
          · have Hone := Lib.hid (tenOne_pairs h1 h2)
            have b3 : ((l[k].2.length : Int) == 0) = false := by rw [beq_eq_false_iff_ne]; omega
            clear h1 h2
            by_cases h3 : pairsFaultS l[k].2 = 0
            rotate_left
            · have Hz := Lib.hid (tenAt_bad hlt (by rw [Hone.out]; exact h3))
              have Hne := Lib.hid h3
              have b4 : (pairsFaultS l[k].2 != 0) = true := by simpa using h3
              have b5 : (pairsFaultS l[k].2 == 0) = false := by simpa using h3
              clear h3
              generalize l[k] = x at *
              go_wp2_with (first | (go_at_call 105; refine (nameFault_ok _ K x.1 c1).mono ?_; rintro e w0 ⟨rfl, rfl⟩) | (go_at_call 100; refine (pairsFault_ok _ V x.2 d1 (hs2.z pairR_stays)).mono ?_; rintro e w1 ⟨rfl, hbw1⟩))
              go_quiet (fail)
              go_wp2
              go_ret
              exact ⟨ret_int (by rw [← Hval.out, Hstep.out, Hz.out, if_pos (by rw [Hone.out]; first | exact Hne.out | decide), Hone.out]), below_drewN (Hbel.out.next hbw1 hbz) _⟩
            · have Hf := Lib.hid (show tenOne l[k] = 0 by rw [Hone.out]; exact h3)
              have b4 : (pairsFaultS l[k].2 != 0) = false := by simp [h3]
              have b5 : (pairsFaultS l[k].2 == 0) = true := by simp [h3]
              clear h3 Hone
              rcases k with _ | m
              · have Hz := Lib.hid (tenAt_zero hlt Hf.out)
                simp only [Nat.zero_mul, Nat.add_zero] at hc1 hc2
                generalize l[0] = x at *
                go_wp2_with (first | (go_at_call 105; refine (nameFault_ok _ K x.1 c1).mono ?_; rintro e w0 ⟨rfl, rfl⟩) | (go_at_call 100; refine (pairsFault_ok _ V x.2 d1 (hs2.z pairR_stays)).mono ?_; rintro e w1 ⟨rfl, hbw1⟩))
                go_quiet (fail)
                go_wp2
                go_roundw
                case rel => exact ⟨1, by omega, rfl, by rw [← Hval.out, Hstep.out, Hz.out]; rfl, below_drewN (Hbel.out.next hbw1 hbz) _⟩
                case measure => simp [intOf]; omega
              · have hm : m < l.length := by omega
                obtain ⟨ab0, ao0, K0, c0, V0, d0, he0, _, _, hc3, hc4, hs3, _, _, _⟩ := tens_at (Ha.out.below tenR_stays Hbel.out) hm
                cases he0
                have hi0 : (0 : Int) ≤ (m : Int) := by omega
                have hi1 : (m : Int) < (l.length : Int) := by omega
                have hi2 : (m : Int) + 1 < (l.length : Int) := by omega
                rcases Bool.eq_false_or_eq_true (lt l[m].1 l[m + 1].1) with ho | ho
                · have Hz := Lib.hid (tenAt_ok hlt Hf.out ho)
                  generalize l[m + 1] = x at *
                  generalize l[m] = q at *
                  go_wp2_with (first | (go_at_call 105; refine (nameFault_ok _ K x.1 c1).mono ?_; rintro e w0 ⟨rfl, rfl⟩) | (go_at_call 100; refine (pairsFault_ok _ V x.2 d1 (hs2.z pairR_stays)).mono ?_; rintro e w1 ⟨rfl, hbw1⟩))
                  have hg1 := (hbw1.cell (p := ⟨ab, ao + (m + 1) * 2, none⟩) hal).trans hc1
                  have hg3 := (hbw1.cell (p := ⟨ab, ao + m * 2, none⟩) hal).trans hc3
                  clear hc1 hc2 hc3
                  go_quiet ((go_at_call 93; exact quiet_left (before_ok _ K0 K q.1 x.1 c0 c1 ((hs3.bz.bbelow hbw1).bsame (by repeat' (first | exact Same.refl _ _ | assumption | refine Same.drew ?_ | refine Same.drewN ?_ _ | refine Same.alloc ?_ _ | refine Same.setCell ?_ (fun hq => by simp only [From] at hq; first | omega | (simp at hq; done) | (simp at hq; omega)) _))) ((hs1.bz.bbelow hbw1).bsame (by repeat' (first | exact Same.refl _ _ | assumption | refine Same.drew ?_ | refine Same.drewN ?_ _ | refine Same.alloc ?_ _ | refine Same.setCell ?_ (fun hq => by simp only [From] at hq; first | omega | (simp at hq; done) | (simp at hq; omega)) _))))))
                  go_wp2
                  go_roundw
                  case rel => exact ⟨m + 2, by omega, by go_num, by rw [← Hval.out, Hstep.out, Hz.out]; rfl, below_drewN (Hbel.out.next hbw1 hbz) _⟩
                  case measure => simp [intOf]; omega
                · have Hz := Lib.hid (tenAt_order hlt Hf.out ho)
                  generalize l[m + 1] = x at *
                  generalize l[m] = q at *
                  go_wp2_with (first | (go_at_call 105; refine (nameFault_ok _ K x.1 c1).mono ?_; rintro e w0 ⟨rfl, rfl⟩) | (go_at_call 100; refine (pairsFault_ok _ V x.2 d1 (hs2.z pairR_stays)).mono ?_; rintro e w1 ⟨rfl, hbw1⟩))
                  have hg1 := (hbw1.cell (p := ⟨ab, ao + (m + 1) * 2, none⟩) hal).trans hc1
                  have hg3 := (hbw1.cell (p := ⟨ab, ao + m * 2, none⟩) hal).trans hc3
                  clear hc1 hc2 hc3
                  go_quiet ((go_at_call 93; exact quiet_left (before_ok _ K0 K q.1 x.1 c0 c1 ((hs3.bz.bbelow hbw1).bsame (by repeat' (first | exact Same.refl _ _ | assumption | refine Same.drew ?_ | refine Same.drewN ?_ _ | refine Same.alloc ?_ _ | refine Same.setCell ?_ (fun hq => by simp only [From] at hq; first | omega | (simp at hq; done) | (simp at hq; omega)) _))) ((hs1.bz.bbelow hbw1).bsame (by repeat' (first | exact Same.refl _ _ | assumption | refine Same.drew ?_ | refine Same.drewN ?_ _ | refine Same.alloc ?_ _ | refine Same.setCell ?_ (fun hq => by simp only [From] at hq; first | omega | (simp at hq; done) | (simp at hq; omega)) _))))))
                  go_wp2
                  go_ret
                  exact ⟨ret_int (by rw [← Hval.out, Hstep.out, Hz.out]; rfl), below_drewN (Hbel.out.next hbw1 hbz) _⟩
      · go_wp2
        go_ret
        obtain rfl : k = l.length := by omega
        have h := Hval.out
        simp [firstBad] at h
        exact ⟨ret_int h, Hbel.out⟩

set_option maxRecDepth 100000 in
set_option maxHeartbeats 1000000 in
theorem forestCheck_ok (w : World) (A : Option Addr) (l : List Tn) (c : Nat) (ha : Ts All w A l) :
    Calls Try.prog 36 #[.slice A l.length c] w (RetV w (.int .i64 (forestFaultS l))) := by
  have Ha := Lib.hid ha
  clear ha
  by_cases hbig : 8 < l.length
  · go_enter Try.func36, Try.ntmps36
    go_wp2
    go_ret
    exact ⟨ret_int (by simp [forestFaultS, hbig]), Below.refl _ _⟩
  · have Hv := Lib.hid (show forestFaultS l = firstBad (tenAt l) l.length 0 by simp [forestFaultS, hbig])
    have h60 : decide (8 < (l.length : Int)) = false := by simp; omega
    go_enter Try.func36, Try.ntmps36
    go_wp2
    clear h60
    go_loopw [12] (fun i wr => ∃ k : Nat, k ≤ l.length ∧ i = .int .i64 k ∧ firstBad (tenAt l) (l.length - k) k = forestFaultS l ∧ Below w.heap.size w wr) (fun i _ => l.length - (intOf i).toNat)
    case atStart => exact ⟨0, by omega, rfl, by rw [Hv.out]; rfl, Below.refl _ _⟩
    case round =>
      obtain ⟨k, hk, rfl, hval, hbel⟩ := hrel
      have Hbel := Lib.hid hbel
      have Hval := Lib.hid hval
      have hbz := hbel.size
      clear hbel hval
      by_cases hlt : k < l.length
      · have Hstep := Lib.hid (firstBad_at (tenAt l) hlt)
        obtain ⟨ab, ao, K, c1, V, d1, rfl, _, hal, hc1, hc2, hs1, hs2, _, _⟩ := tens_at (Ha.out.below tenR_stays Hbel.out) hlt
        by_cases h1 : nameFault l[k].1 = 0
        rotate_left
        · have Hone := Lib.hid (tenOne_name h1)
          have Hz := Lib.hid (tenAt_bad hlt (by rw [Hone.out]; exact h1))
          have Hne := Lib.hid h1
          have b1 : (nameFault l[k].1 != 0) = true := by simpa using h1
          have b2 : (nameFault l[k].1 == 0) = false := by simpa using h1
          clear h1
          generalize l[k] = x at *
          go_wp2_with (go_at_call 102; refine (forestName_ok _ K x.1 c1).mono ?_; rintro e w0 ⟨rfl, rfl⟩)
          go_ret
          exact ⟨ret_int (by rw [← Hval.out, Hstep.out, Hz.out, if_pos (by rw [Hone.out]; first | exact Hne.out | decide), Hone.out]), (Hbel.out.alloc Hbel.out.size _)⟩
        · have b1 : (nameFault l[k].1 != 0) = false := by simp [h1]
          have b2 : (nameFault l[k].1 == 0) = true := by simp [h1]
          by_cases h2 : l[k].2.length = 0
          · have Hone := Lib.hid (tenOne_none h1 h2)
            have Hz := Lib.hid (tenAt_bad hlt (by rw [Hone.out]; decide))
            have Hne := Lib.hid (show (4 : Int) ≠ 0 by decide)
            have b3 : ((l[k].2.length : Int) == 0) = true := by rw [beq_iff_eq]; omega
            clear h1 h2
            generalize l[k] = x at *
            go_wp2_with (go_at_call 102; refine (forestName_ok _ K x.1 c1).mono ?_; rintro e w0 ⟨rfl, rfl⟩)
            go_ret
            exact ⟨ret_int (by rw [← Hval.out, Hstep.out, Hz.out, if_pos (by rw [Hone.out]; first | exact Hne.out | decide), Hone.out]), (Hbel.out.alloc Hbel.out.size _)⟩
          · have Hone := Lib.hid (tenOne_pairs h1 h2)
            have b3 : ((l[k].2.length : Int) == 0) = false := by rw [beq_eq_false_iff_ne]; omega
            clear h1 h2
            by_cases h3 : pairsFaultS l[k].2 = 0
            rotate_left
            · have Hz := Lib.hid (tenAt_bad hlt (by rw [Hone.out]; exact h3))
              have Hne := Lib.hid h3
              have b4 : (pairsFaultS l[k].2 != 0) = true := by simpa using h3
              have b5 : (pairsFaultS l[k].2 == 0) = false := by simpa using h3
              clear h3
              generalize l[k] = x at *
              go_wp2_with (first | (go_at_call 102; refine (forestName_ok _ K x.1 c1).mono ?_; rintro e w0 ⟨rfl, rfl⟩) | (go_at_call 83; refine (treeCheck_ok _ V x.2 d1 ((hs2.z pairR_stays).below pairR_stays ((Below.refl _ _).alloc (Nat.le_refl _) _))).mono ?_; rintro e w1 ⟨rfl, hbw1⟩))
              go_ret
              exact ⟨ret_int (by rw [← Hval.out, Hstep.out, Hz.out, if_pos (by rw [Hone.out]; first | exact Hne.out | decide), Hone.out]), (Hbel.out.alloc Hbel.out.size _).next hbw1 (by simp; omega)⟩
            · have Hf := Lib.hid (show tenOne l[k] = 0 by rw [Hone.out]; exact h3)
              have b4 : (pairsFaultS l[k].2 != 0) = false := by simp [h3]
              have b5 : (pairsFaultS l[k].2 == 0) = true := by simp [h3]
              clear h3 Hone
              rcases k with _ | m
              · have Hz := Lib.hid (tenAt_zero hlt Hf.out)
                simp only [Nat.zero_mul, Nat.add_zero] at hc1 hc2
                generalize l[0] = x at *
                go_wp2_with (first | (go_at_call 102; refine (forestName_ok _ K x.1 c1).mono ?_; rintro e w0 ⟨rfl, rfl⟩) | (go_at_call 83; refine (treeCheck_ok _ V x.2 d1 ((hs2.z pairR_stays).below pairR_stays ((Below.refl _ _).alloc (Nat.le_refl _) _))).mono ?_; rintro e w1 ⟨rfl, hbw1⟩))
                go_quiet (fail)
                go_wp2
                go_roundw
                case rel => exact ⟨1, by omega, rfl, by rw [← Hval.out, Hstep.out, Hz.out]; rfl, below_drewN ((Hbel.out.alloc Hbel.out.size _).next hbw1 (by simp; omega)) _⟩
                case measure => simp [intOf]; omega
              · have hm : m < l.length := by omega
                obtain ⟨ab0, ao0, K0, c0, V0, d0, he0, _, _, hc3, hc4, hs3, _, _, _⟩ := tens_at (Ha.out.below tenR_stays Hbel.out) hm
                cases he0
                have hi0 : (0 : Int) ≤ (m : Int) := by omega
                have hi1 : (m : Int) < (l.length : Int) := by omega
                have hi2 : (m : Int) + 1 < (l.length : Int) := by omega
                rcases Bool.eq_false_or_eq_true (lt l[m].1 l[m + 1].1) with ho | ho
                · have Hz := Lib.hid (tenAt_ok hlt Hf.out ho)
                  have hcm : decide (0 ≤ cmp3 l[m].1 l[m + 1].1) = false := by have := cmp3_neg ho; simpa using this
                  clear ho
                  generalize l[m + 1] = x at *
                  generalize l[m] = q at *
                  go_wp2_with (first | (go_at_call 102; refine (forestName_ok _ K x.1 c1).mono ?_; rintro e w0 ⟨rfl, rfl⟩) | (go_at_call 83; refine (treeCheck_ok _ V x.2 d1 ((hs2.z pairR_stays).below pairR_stays ((Below.refl _ _).alloc (Nat.le_refl _) _))).mono ?_; rintro e w1 ⟨rfl, hbw1⟩))
                  have hold := (Below.refl wr.heap.size wr).alloc (Nat.le_refl _) (.cells #[.slice K x.1.length c1, .slice V x.2.length d1] 122)
                  have hz1 : wr.heap.size + 1 ≤ w1.heap.size := by have hz := hbw1.size; simpa using hz
                  have hg3 := (hbw1.cell (p := ⟨ab, ao + m * 2, none⟩) (by simp; omega)).trans ((hold.cell (p := ⟨ab, ao + m * 2, none⟩) hal).trans hc3)
                  have hg1 : w1.cell? ⟨wr.heap.size, 0, none⟩ = some (.slice K x.1.length c1) := (hbw1.cell (by first | (simp; done) | omega | (simp; omega))).trans (by simp)
                  have Ho1 := Lib.hid (hold.next hbw1 (by simp))
                  have hiw : IntKind.i64.wrap (m : Int) = (m : Int) := IntWalk.i64_in _ (by omega)
                  clear hc1 hc2 hc3 hc4 hold
                  go_quiet ((go_at_call 103; exact quiet_left (bytesCompare_ok _ K0 K q.1 x.1 c0 c1 ((hs3.bz.bbelow Ho1.out).bsame (by repeat' (first | exact Same.refl _ _ | assumption | refine Same.drew ?_ | refine Same.drewN ?_ _ | refine Same.alloc ?_ _ | refine Same.setCell ?_ (fun hq => by simp only [From] at hq; first | omega | (simp at hq; done) | (simp at hq; omega)) _))) ((hs1.bz.bbelow Ho1.out).bsame (by repeat' (first | exact Same.refl _ _ | assumption | refine Same.drew ?_ | refine Same.drewN ?_ _ | refine Same.alloc ?_ _ | refine Same.setCell ?_ (fun hq => by simp only [From] at hq; first | omega | (simp at hq; done) | (simp at hq; omega)) _))))))
                  go_wp2
                  go_roundw
                  case rel => exact ⟨m + 2, by omega, by go_num, by rw [← Hval.out, Hstep.out, Hz.out]; rfl, below_drewN (Hbel.out.next Ho1.out hbz) _⟩
                  case measure => simp [intOf]; omega
                · have Hz := Lib.hid (tenAt_order hlt Hf.out ho)
                  have hcm : decide (0 ≤ cmp3 l[m].1 l[m + 1].1) = true := by have := cmp3_nonneg ho; simpa using this
                  clear ho
                  generalize l[m + 1] = x at *
                  generalize l[m] = q at *
                  go_wp2_with (first | (go_at_call 102; refine (forestName_ok _ K x.1 c1).mono ?_; rintro e w0 ⟨rfl, rfl⟩) | (go_at_call 83; refine (treeCheck_ok _ V x.2 d1 ((hs2.z pairR_stays).below pairR_stays ((Below.refl _ _).alloc (Nat.le_refl _) _))).mono ?_; rintro e w1 ⟨rfl, hbw1⟩))
                  have hold := (Below.refl wr.heap.size wr).alloc (Nat.le_refl _) (.cells #[.slice K x.1.length c1, .slice V x.2.length d1] 122)
                  have hz1 : wr.heap.size + 1 ≤ w1.heap.size := by have hz := hbw1.size; simpa using hz
                  have hg3 := (hbw1.cell (p := ⟨ab, ao + m * 2, none⟩) (by simp; omega)).trans ((hold.cell (p := ⟨ab, ao + m * 2, none⟩) hal).trans hc3)
                  have hg1 : w1.cell? ⟨wr.heap.size, 0, none⟩ = some (.slice K x.1.length c1) := (hbw1.cell (by first | (simp; done) | omega | (simp; omega))).trans (by simp)
                  have Ho1 := Lib.hid (hold.next hbw1 (by simp))
                  have hiw : IntKind.i64.wrap (m : Int) = (m : Int) := IntWalk.i64_in _ (by omega)
                  clear hc1 hc2 hc3 hc4 hold
                  go_quiet ((go_at_call 103; exact quiet_left (bytesCompare_ok _ K0 K q.1 x.1 c0 c1 ((hs3.bz.bbelow Ho1.out).bsame (by repeat' (first | exact Same.refl _ _ | assumption | refine Same.drew ?_ | refine Same.drewN ?_ _ | refine Same.alloc ?_ _ | refine Same.setCell ?_ (fun hq => by simp only [From] at hq; first | omega | (simp at hq; done) | (simp at hq; omega)) _))) ((hs1.bz.bbelow Ho1.out).bsame (by repeat' (first | exact Same.refl _ _ | assumption | refine Same.drew ?_ | refine Same.drewN ?_ _ | refine Same.alloc ?_ _ | refine Same.setCell ?_ (fun hq => by simp only [From] at hq; first | omega | (simp at hq; done) | (simp at hq; omega)) _))))))
                  go_wp2
                  go_ret
                  exact ⟨ret_int (by rw [← Hval.out, Hstep.out, Hz.out]; rfl), below_drewN (Hbel.out.next Ho1.out hbz) _⟩
      · go_wp2
        go_ret
        obtain rfl : k = l.length := by omega
        have h := Hval.out
        simp [firstBad] at h
        exact ⟨ret_int h, Hbel.out⟩
end Go.Proofs.Ythhcdibimnifaaa
