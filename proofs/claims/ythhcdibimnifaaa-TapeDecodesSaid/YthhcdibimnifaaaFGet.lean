/- Walks: forest.Get, forest.Range and what the references say of them; the laws ForestChecks, ForestGets, ForestRanges. -/
import Derived.Test.YthhcdibimnifaaaFFind
import Derived.Test.YthhcdibimnifaaaTenCopy
import Derived.Test.YthhcdibimnifaaaGetRef
import Derived.Test.YthhcdibimnifaaaRange
namespace Go.Proofs.Ythhcdibimnifaaa
open Go.RowKit
set_option linter.unusedVariables false
set_option linter.unusedSimpArgs false

def fnFault (l : List Tn) (n : List UInt8) : Int := if forestFaultS l ≠ 0 then forestFaultS l else nameFault n
theorem fn_fine {l : List Tn} {n : List UInt8} (h : fnFault l n = 0) : forestFaultS l = 0 ∧ nameFault n = 0 := by
  unfold fnFault at h
  split at h
  · rename_i h1; exact absurd h h1
  · rename_i h1; exact ⟨by simpa using h1, h⟩
def forestGetS (l : List Tn) (n k : List UInt8) : Finding × Int := if fnFault l n ≠ 0 then ((false, []), fnFault l n) else getS (pairsOfS l n) k
def forestRangeS (l : List Tn) (n k m : List UInt8) : List Pr × Int := if fnFault l n ≠ 0 then ([], fnFault l n) else rangeS (pairsOfS l n) k m

set_option maxRecDepth 100000 in
set_option maxHeartbeats 400000 in
theorem forestChecked_ok (w : World) (A : Option Addr) (l : List Tn) (c : Nat) (K : Option Addr) (k : List UInt8) (c1 : Nat) (ha : Ts All w A l) :
    Calls Try.prog 106 #[.slice A l.length c, .slice K k.length c1] w (RetV w (.int .i64 (fnFault l k))) := by
  have Ha := Lib.hid ha
  clear ha
  by_cases h1 : forestFaultS l = 0
  · have b1 : (forestFaultS l == 0) = true := by simp [h1]
    have b2 : (forestFaultS l != 0) = false := by simp [h1]
    have Hv := Lib.hid (show fnFault l k = nameFault k by simp [fnFault, h1])
    clear h1
    go_enter Try.func106, Try.ntmps106
    go_wp2_with (first
      | (go_at_call 36; refine (forestCheck_ok _ A l c Ha.out).mono ?_; rintro e w1 ⟨rfl, hb1⟩)
      | (go_at_call 102; refine (forestName_ok _ K k c1).mono ?_; rintro e w2 ⟨rfl, rfl⟩))
    go_ret
    exact ⟨ret_int Hv.out.symm, hb1⟩
  · have b1 : (forestFaultS l == 0) = false := by simp [h1]
    have b2 : (forestFaultS l != 0) = true := by simpa using h1
    have Hv := Lib.hid (show fnFault l k = forestFaultS l by simp [fnFault, h1])
    clear h1
    go_enter Try.func106, Try.ntmps106
    go_wp2_with (go_at_call 36; refine (forestCheck_ok _ A l c Ha.out).mono ?_; rintro e w1 ⟨rfl, hb1⟩)
    go_ret
    exact ⟨ret_int Hv.out.symm, hb1⟩

set_option maxRecDepth 100000 in
set_option maxHeartbeats 400000 in
theorem forestAndName_ok (w : World) (A : Option Addr) (l : List Tn) (c : Nat) (K : Option Addr) (k : List UInt8) (c1 : Nat) (ha : Ts All w A l) :
    Calls Try.prog 108 #[.slice A l.length c, .slice K k.length c1] w (RetV w (.int .i64 (fnFault l k))) := by
  have Ha := Lib.hid ha
  clear ha
  by_cases h1 : forestFaultS l = 0
  · have b1 : (forestFaultS l == 0) = true := by simp [h1]
    have b2 : (forestFaultS l != 0) = false := by simp [h1]
    have Hv := Lib.hid (show fnFault l k = nameFault k by simp [fnFault, h1])
    clear h1
    go_enter Try.func108, Try.ntmps108
    go_wp2_with (first
      | (go_at_call 38; refine (forestFault_ok _ A l c Ha.out).mono ?_; rintro e w1 ⟨rfl, hb1⟩)
      | (go_at_call 105; refine (nameFault_ok _ K k c1).mono ?_; rintro e w2 ⟨rfl, rfl⟩))
    go_ret
    exact ⟨ret_int Hv.out.symm, hb1⟩
  · have b1 : (forestFaultS l == 0) = false := by simp [h1]
    have b2 : (forestFaultS l != 0) = true := by simpa using h1
    have Hv := Lib.hid (show fnFault l k = forestFaultS l by simp [fnFault, h1])
    clear h1
    go_enter Try.func108, Try.ntmps108
    go_wp2_with (go_at_call 38; refine (forestFault_ok _ A l c Ha.out).mono ?_; rintro e w1 ⟨rfl, hb1⟩)
    go_ret
    exact ⟨ret_int Hv.out.symm, hb1⟩

set_option maxRecDepth 100000 in
set_option maxHeartbeats 1000000 in
theorem forestGet_ok (w : World) (A : Option Addr) (l : List Tn) (c : Nat) (N : Option Addr) (n : List UInt8) (cn : Nat) (K : Option Addr) (k : List UInt8) (c1 : Nat) (ha : Ts All w A l) (hn : Bs All w N n) (hk : Bs All w K k) :
    Calls Try.prog 39 #[.slice A l.length c, .slice N n.length cn, .slice K k.length c1] w (RetGet w (forestGetS l n k)) := by
  have Ha := Lib.hid ha
  have Hn := Lib.hid hn
  have Hk := Lib.hid hk
  clear ha hn hk
  by_cases h1 : fnFault l n = 0
  · have b2 : (fnFault l n != 0) = false := by simp [h1]
    have Hv := Lib.hid (show forestGetS l n k = getS (pairsOfS l n) k by simp [forestGetS, h1])
    obtain ⟨hl8, _, hrise⟩ := ten_fine (fn_fine h1).1
    have Hl8 := Lib.hid hl8
    have Hr := Lib.hid hrise
    clear h1 hl8 hrise
    go_enter Try.func39, Try.ntmps39
    go_wp2_with (go_at_call 106; refine (forestChecked_ok _ A l c N n cn (Ha.out.below tenR_stays ?_)).mono ?_; (repeat' (first | exact Below.refl _ _ | assumption | refine Below.drew ?_ | refine below_drewN ?_ _ | refine Below.alloc ?_ (by first | exact Nat.le_refl _ | omega | (simp; done) | (simp; omega)) _)); rintro e w1 ⟨rfl, hb1⟩)
    have hx1 := (hb1.block w.heap.size (by first | (simp; done) | omega | (simp; omega))).trans (box_new w _ _)
    have hz1 : w.heap.size < w1.heap.size := by have := hb1.size; simp at this; omega
    have hb01 : Below w.heap.size w w1 := Below.next ((Below.refl _ _).alloc (Nat.le_refl _) _) hb1 (by first | (simp; done) | omega | (simp; omega))
    have Hx1 := Lib.hid hx1
    have Hb1 := Lib.hid hb01
    clear hb1 hx1 hb01 b2
    refine (forestPairs_ok _ A l c N n cn (Ha.out.below tenR_stays Hb1.out) (Hn.out.bbelow Hb1.out) (by have := Hl8.out; omega) Hr.out).mono ?_
    rintro e w2 ⟨A2, c2, rfl, hs2, hl2, hcap2, hb2⟩
    have hx2 := (hb2.block w.heap.size hz1).trans Hx1.out
    have hb02 := Hb1.out.next hb2 (by omega)
    have hz2 := hb2.size
    have Hs2 := Lib.hid hs2
    have Hx2 := Lib.hid hx2
    have Hb2 := Lib.hid hb02
    clear hs2 hb2 hx2 hb02
    go_wp2_with fail
    refine (treeGet_ok _ A2 (pairsOfS l n) c2 K k c1 Hs2.out (Hk.out.bbelow Hb2.out)).mono ?_
    rintro e w3 ⟨A3, c3, rfl, hs3, hb3⟩
    obtain ⟨g0, g1, f0, f1⟩ := box2 ((hb3.block w.heap.size (by omega)).trans Hx2.out)
    have hz3 := hb3.size
    have hz03 : w.heap.size < w3.heap.size := by omega
    have Hb3 := Lib.hid (Hb2.out.next hb3 (by omega))
    have Hs3 := Lib.hid hs3
    generalize getS (pairsOfS l n) k = r at *
    obtain ⟨⟨rf, rv⟩, re⟩ := r
    clear hb3 hs3
    go_wp2
    refine bodyPost_ret (v := .tuple #[.agg #[.bool rf, .slice A3 rv.length c3], .int .i64 re]) (by simp [results, Try.results39, go_sem, g0, g1, hz03]) rfl ?_
    rw [Hv.out]
    exact ⟨A3, c3, rfl, (Hs3.out.bsame (((Same.refl _ _).setCell (fun hq => by simp only [From] at hq; omega) _).setCell (fun hq => by simp only [From] at hq; omega) _)).blo (by omega), Below.setCell (Below.setCell Hb3.out (Nat.le_refl _) _) (Nat.le_refl _) _⟩
  · have b2 : (fnFault l n != 0) = true := by simpa using h1
    have Hv := Lib.hid (show forestGetS l n k = ((false, []), fnFault l n) by simp [forestGetS, h1])
    clear h1
    go_enter Try.func39, Try.ntmps39
    go_wp2_with (go_at_call 106; refine (forestChecked_ok _ A l c N n cn (Ha.out.below tenR_stays ?_)).mono ?_; (repeat' (first | exact Below.refl _ _ | assumption | refine Below.drew ?_ | refine below_drewN ?_ _ | refine Below.alloc ?_ (by first | exact Nat.le_refl _ | omega | (simp; done) | (simp; omega)) _)); rintro e w1 ⟨rfl, hb1⟩; obtain ⟨g0, g1, f0, f1⟩ := box2 ((hb1.block w.heap.size (by first | (simp; done) | omega | (simp; omega))).trans (box_new w _ _)))
    refine bodyPost_ret (v := .tuple #[.agg #[.bool false, .slice none 0 0], .int .i64 (fnFault l n)]) (by simp [results, Try.results39, go_sem, g0, g1]) rfl ?_
    rw [Hv.out]
    exact ⟨none, 0, rfl, SL.nil, Below.setCell (Below.setCell (Below.next ((Below.refl _ _).alloc (Nat.le_refl _) _) hb1 (by first | (simp; done) | omega | (simp; omega))) (Nat.le_refl _) _) (Nat.le_refl _) _⟩

set_option maxRecDepth 100000 in
set_option maxHeartbeats 1000000 in
theorem refForestGet_ok (w : World) (A : Option Addr) (l : List Tn) (c : Nat) (N : Option Addr) (n : List UInt8) (cn : Nat) (K : Option Addr) (k : List UInt8) (c1 : Nat) (ha : Ts All w A l) (hn : Bs All w N n) (hk : Bs All w K k) :
    Calls Try.prog 40 #[.slice A l.length c, .slice N n.length cn, .slice K k.length c1] w (RetGet w (forestGetS l n k)) := by
  have Ha := Lib.hid ha
  have Hn := Lib.hid hn
  have Hk := Lib.hid hk
  clear ha hn hk
  by_cases h1 : fnFault l n = 0
  · have b2 : (fnFault l n != 0) = false := by simp [h1]
    have Hv := Lib.hid (show forestGetS l n k = getS (pairsOfS l n) k by simp [forestGetS, h1])
    obtain ⟨hl8, _, hrise⟩ := ten_fine (fn_fine h1).1
    have Hl8 := Lib.hid hl8
    have Hr := Lib.hid hrise
    clear h1 hl8 hrise
    go_enter Try.func40, Try.ntmps40
    go_wp2_with (go_at_call 108; refine (forestAndName_ok _ A l c N n cn (Ha.out.below tenR_stays ?_)).mono ?_; (repeat' (first | exact Below.refl _ _ | assumption | refine Below.drew ?_ | refine below_drewN ?_ _ | refine Below.alloc ?_ (by first | exact Nat.le_refl _ | omega | (simp; done) | (simp; omega)) _)); rintro e w1 ⟨rfl, hb1⟩)
    have hx1 := (hb1.block w.heap.size (by first | (simp; done) | omega | (simp; omega))).trans (box_new w _ _)
    have hz1 : w.heap.size < w1.heap.size := by have := hb1.size; simp at this; omega
    have hb01 : Below w.heap.size w w1 := Below.next ((Below.refl _ _).alloc (Nat.le_refl _) _) hb1 (by first | (simp; done) | omega | (simp; omega))
    have Hx1 := Lib.hid hx1
    have Hb1 := Lib.hid hb01
    clear hb1 hx1 hb01 b2
    refine (pairsOf_ok _ A l c N n cn (Ha.out.below tenR_stays Hb1.out) (Hn.out.bbelow Hb1.out) (by have := Hl8.out; omega)).mono ?_
    rintro e w2 ⟨A2, c2, rfl, hs2, hl2, hcap2, hb2⟩
    have hx2 := (hb2.block w.heap.size hz1).trans Hx1.out
    have hb02 := Hb1.out.next hb2 (by omega)
    have hz2 := hb2.size
    have Hs2 := Lib.hid hs2
    have Hx2 := Lib.hid hx2
    have Hb2 := Lib.hid hb02
    clear hs2 hb2 hx2 hb02
    go_wp2_with fail
    refine (getOf_ok _ A2 (pairsOfS l n) c2 K k c1 Hs2.out (Hk.out.bbelow Hb2.out)).mono ?_
    rintro e w3 ⟨A3, c3, rfl, hs3, hb3⟩
    obtain ⟨g0, g1, f0, f1⟩ := box2 ((hb3.block w.heap.size (by omega)).trans Hx2.out)
    have hz3 := hb3.size
    have hz03 : w.heap.size < w3.heap.size := by omega
    have Hb3 := Lib.hid (Hb2.out.next hb3 (by omega))
    have Hs3 := Lib.hid hs3
    generalize getS (pairsOfS l n) k = r at *
    obtain ⟨⟨rf, rv⟩, re⟩ := r
    clear hb3 hs3
    go_wp2
    refine bodyPost_ret (v := .tuple #[.agg #[.bool rf, .slice A3 rv.length c3], .int .i64 re]) (by simp [results, Try.results40, go_sem, g0, g1, hz03]) rfl ?_
    rw [Hv.out]
    have hb3' := Hb3.out
    exact ⟨A3, c3, rfl, (Hs3.out.bsame (by repeat' (first | exact Same.refl _ _ | assumption | refine Same.drew ?_ | refine Same.drewN ?_ _ | refine Same.alloc ?_ _ | refine Same.setCell ?_ (fun hq => by simp only [From] at hq; first | omega | (simp at hq; done) | (simp at hq; omega)) _))).blo (by omega), by repeat' (first | exact Below.refl _ _ | assumption | refine Below.drew ?_ | refine below_drewN ?_ _ | refine Below.setCell ?_ (by first | (simp; done) | omega | (simp; omega)) _ | refine Below.alloc ?_ (by first | exact Nat.le_refl _ | omega | (simp; done) | (simp; omega)) _)⟩
  · have b2 : (fnFault l n != 0) = true := by simpa using h1
    have Hv := Lib.hid (show forestGetS l n k = ((false, []), fnFault l n) by simp [forestGetS, h1])
    clear h1
    go_enter Try.func40, Try.ntmps40
    go_wp2_with (go_at_call 108; refine (forestAndName_ok _ A l c N n cn (Ha.out.below tenR_stays ?_)).mono ?_; (repeat' (first | exact Below.refl _ _ | assumption | refine Below.drew ?_ | refine below_drewN ?_ _ | refine Below.alloc ?_ (by first | exact Nat.le_refl _ | omega | (simp; done) | (simp; omega)) _)); rintro e w1 ⟨rfl, hb1⟩; obtain ⟨g0, g1, f0, f1⟩ := box2 ((hb1.block w.heap.size (by first | (simp; done) | omega | (simp; omega))).trans (box_new w _ _)))
    refine bodyPost_ret (v := .tuple #[.agg #[.bool false, .slice none 0 0], .int .i64 (fnFault l n)]) (by simp [results, Try.results40, go_sem, g0, g1]) rfl ?_
    rw [Hv.out]
    exact ⟨none, 0, rfl, SL.nil, Below.setCell (Below.setCell (Below.next ((Below.refl _ _).alloc (Nat.le_refl _) _) hb1 (by first | (simp; done) | omega | (simp; omega))) (Nat.le_refl _) _) (Nat.le_refl _) _⟩

set_option maxRecDepth 100000 in
set_option maxHeartbeats 1000000 in
theorem forestRange_ok (w : World) (A : Option Addr) (l : List Tn) (c : Nat) (N : Option Addr) (n : List UInt8) (cn : Nat) (K : Option Addr) (k : List UInt8) (c1 : Nat) (M : Option Addr) (m : List UInt8) (cm : Nat) (ha : Ts All w A l) (hn : Bs All w N n) (hk : Bs All w K k) (hm : Bs All w M m) :
    Calls Try.prog 41 #[.slice A l.length c, .slice N n.length cn, .slice K k.length c1, .slice M m.length cm] w (RetPE w (forestRangeS l n k m)) := by
  have Ha := Lib.hid ha
  have Hn := Lib.hid hn
  have Hk := Lib.hid hk
  have Hm := Lib.hid hm
  clear ha hn hk hm
  by_cases h1 : fnFault l n = 0
  · have b2 : (fnFault l n != 0) = false := by simp [h1]
    have Hv := Lib.hid (show forestRangeS l n k m = rangeS (pairsOfS l n) k m by simp [forestRangeS, h1])
    obtain ⟨hl8, _, hrise⟩ := ten_fine (fn_fine h1).1
    have Hl8 := Lib.hid hl8
    have Hr := Lib.hid hrise
    clear h1 hl8 hrise
    go_enter Try.func41, Try.ntmps41
    go_wp2_with (go_at_call 106; refine (forestChecked_ok _ A l c N n cn Ha.out).mono ?_; rintro e w1 ⟨rfl, hb1⟩)
    have Hb1 := Lib.hid hb1
    clear hb1 b2
    refine (forestPairs_ok _ A l c N n cn (Ha.out.below tenR_stays Hb1.out) (Hn.out.bbelow Hb1.out) (by have := Hl8.out; omega) Hr.out).mono ?_
    rintro e w2 ⟨A2, c2, rfl, hs2, hl2, hcap2, hb2⟩
    have Hb2 := Lib.hid (Hb1.out.next hb2 Hb1.out.size)
    have Hs2 := Lib.hid hs2
    clear hs2 hb2
    go_wp2_with fail
    refine (treeRange_ok _ A2 (pairsOfS l n) c2 K k c1 M m cm Hs2.out (Hk.out.bbelow Hb2.out) (Hm.out.bbelow Hb2.out) hcap2).mono ?_
    rintro e w3 ⟨A3, c3, rfl, hc3, hs3, hb3⟩
    have Hc3 := Lib.hid hc3
    clear hc3
    have Hb3 := Lib.hid (Hb2.out.next hb3 Hb2.out.size)
    have Hs3 := Lib.hid hs3
    generalize rangeS (pairsOfS l n) k m = r at *
    obtain ⟨rv, re⟩ := r
    clear hb3 hs3
    go_wp2
    go_ret2
    rw [Hv.out]
    exact ⟨A3, c3, rfl, Hc3.out, Hs3.out.lo pairR_stays Hb2.out.size, Hb3.out⟩
  · have b2 : (fnFault l n != 0) = true := by simpa using h1
    have Hv := Lib.hid (show forestRangeS l n k m = ([], fnFault l n) by simp [forestRangeS, h1])
    clear h1
    go_enter Try.func41, Try.ntmps41
    go_wp2_with (go_at_call 106; refine (forestChecked_ok _ A l c N n cn Ha.out).mono ?_; rintro e w1 ⟨rfl, hb1⟩)
    go_ret2
    rw [Hv.out]
    exact ⟨none, 0, rfl, Nat.le_refl _, SL.nil, hb1⟩

set_option maxRecDepth 100000 in
set_option maxHeartbeats 1000000 in
theorem refForestRange_ok (w : World) (A : Option Addr) (l : List Tn) (c : Nat) (N : Option Addr) (n : List UInt8) (cn : Nat) (K : Option Addr) (k : List UInt8) (c1 : Nat) (M : Option Addr) (m : List UInt8) (cm : Nat) (ha : Ts All w A l) (hn : Bs All w N n) (hk : Bs All w K k) (hm : Bs All w M m) :
    Calls Try.prog 42 #[.slice A l.length c, .slice N n.length cn, .slice K k.length c1, .slice M m.length cm] w (RetPE w (forestRangeS l n k m)) := by
  have Ha := Lib.hid ha
  have Hn := Lib.hid hn
  have Hk := Lib.hid hk
  have Hm := Lib.hid hm
  clear ha hn hk hm
  by_cases h1 : fnFault l n = 0
  · have b2 : (fnFault l n != 0) = false := by simp [h1]
    have Hv := Lib.hid (show forestRangeS l n k m = rangeS (pairsOfS l n) k m by simp [forestRangeS, h1])
    obtain ⟨hl8, _, hrise⟩ := ten_fine (fn_fine h1).1
    have Hl8 := Lib.hid hl8
    have Hr := Lib.hid hrise
    clear h1 hl8 hrise
    go_enter Try.func42, Try.ntmps42
    go_wp2_with (go_at_call 108; refine (forestAndName_ok _ A l c N n cn Ha.out).mono ?_; rintro e w1 ⟨rfl, hb1⟩)
    have Hb1 := Lib.hid hb1
    clear hb1 b2
    refine (pairsOf_ok _ A l c N n cn (Ha.out.below tenR_stays Hb1.out) (Hn.out.bbelow Hb1.out) (by have := Hl8.out; omega)).mono ?_
    rintro e w2 ⟨A2, c2, rfl, hs2, hl2, hcap2, hb2⟩
    have Hb2 := Lib.hid (Hb1.out.next hb2 Hb1.out.size)
    have Hs2 := Lib.hid hs2
    clear hs2 hb2
    go_wp2_with fail
    refine (rangeOf_ok _ A2 (pairsOfS l n) c2 K k c1 M m cm Hs2.out (Hk.out.bbelow Hb2.out) (Hm.out.bbelow Hb2.out)).mono ?_
    rintro e w3 ⟨A3, c3, rfl, hc3, hs3, hb3⟩
    have Hc3 := Lib.hid hc3
    clear hc3
    have Hb3 := Lib.hid (Hb2.out.next hb3 Hb2.out.size)
    have Hs3 := Lib.hid hs3
    generalize rangeS (pairsOfS l n) k m = r at *
    obtain ⟨rv, re⟩ := r
    clear hb3 hs3
    go_wp2
    go_ret2
    rw [Hv.out]
    exact ⟨A3, c3, rfl, Hc3.out, Hs3.out.lo pairR_stays Hb2.out.size, Hb3.out⟩
  · have b2 : (fnFault l n != 0) = true := by simpa using h1
    have Hv := Lib.hid (show forestRangeS l n k m = ([], fnFault l n) by simp [forestRangeS, h1])
    clear h1
    go_enter Try.func42, Try.ntmps42
    go_wp2_with (go_at_call 108; refine (forestAndName_ok _ A l c N n cn Ha.out).mono ?_; rintro e w1 ⟨rfl, hb1⟩)
    go_ret2
    rw [Hv.out]
    exact ⟨none, 0, rfl, Nat.le_refl _, SL.nil, hb1⟩

end Go.Proofs.Ythhcdibimnifaaa
