/- Walks: the value of a key among pairs. -/
import Derived.Test.YtjgdeeabejoegaaDoorFind
import Derived.Test.YtjgdeeabejoegaaDoorRefSame
namespace Go.Proofs.YtjgdeeabejoegaaDoor
open Go.RowKit
set_option linter.unusedVariables false
set_option linter.unusedSimpArgs false

def findVal (l : List Pr) (k : List UInt8) : Option (List UInt8) := (l.find? (·.1 == k)).map (·.2)
abbrev Finding := Bool × List UInt8
/-- What tree.Get and GetOf answer. -/
def getS (l : List Pr) (k : List UInt8) : Finding × Int :=
  if pairsFaultS l ≠ 0 then ((false, []), pairsFaultS l) else if keyFault k ≠ 0 then ((false, []), keyFault k) else
    match findVal l k with
    | some v => ((true, v), 0)
    | none => ((false, []), 0)
def RetGet (w : World) (r : Finding × Int) (e : Ending) (w' : World) : Prop :=
  ∃ A c, e = .returned (.tuple #[.agg #[.bool r.1.1, .slice A r.1.2.length c], .int .i64 r.2]) ∧ Bs (From w.heap.size) w' A r.1.2 ∧ Below w.heap.size w w'

theorem getS_pairs {l : List Pr} {k : List UInt8} (h : pairsFaultS l ≠ 0) : getS l k = ((false, []), pairsFaultS l) := by simp [getS, h]
theorem getS_key {l : List Pr} {k : List UInt8} (h : pairsFaultS l = 0) (h' : keyFault k ≠ 0) : getS l k = ((false, []), keyFault k) := by simp [getS, h, h']
theorem getS_found {l : List Pr} {k v : List UInt8} (h : pairsFaultS l = 0) (h' : keyFault k = 0) (hv : findVal l k = some v) : getS l k = ((true, v), 0) := by simp [getS, h, h', hv]
theorem getS_none {l : List Pr} {k : List UInt8} (h : pairsFaultS l = 0) (h' : keyFault k = 0) (hv : findVal l k = none) : getS l k = ((false, []), 0) := by simp [getS, h, h', hv]
theorem rise_inj {ks : List (List UInt8)} (hr : Rise ks) {i j : Nat} (hi : i < ks.length) (hj : j < ks.length) (h : ks[i] = ks[j]) : i = j := by
  rcases (by omega : i < j ∨ i = j ∨ j < i) with h1 | h1 | h1
  · have := hr i j h1 hj; rw [h, lt_irrefl] at this; cases this
  · exact h1
  · have := hr j i h1 hi; rw [h, lt_irrefl] at this; cases this
theorem findVal_at {l : List Pr} {k : List UInt8} (hr : Rise (keys l)) {i : Nat} (hi : i < l.length) (h : l[i].1 = k) : findVal l k = some l[i].2 := by
  have hf : (l.find? (·.1 == k)) = some l[i] := by
    rw [List.find?_eq_some_iff_getElem]
    refine ⟨by simpa using h, i, hi, rfl, fun j hj => ?_⟩
    have hjl : j < l.length := by omega
    simp only [Bool.not_eq_true', beq_eq_false_iff_ne]
    intro e
    have := rise_inj hr (i := j) (j := i) (by simpa [keys] using hjl) (by simpa [keys] using hi) (by rw [keys_at, keys_at, e, h])
    omega
  simp [findVal, hf]
theorem findVal_of_at {l : List Pr} {k : List UInt8} {i : Nat} (hr : Rise (keys l)) (hat : At (keys l) k i) (h : (keys l)[i]? ≠ some k) : findVal l k = none := by
  have hf : (l.find? (·.1 == k)) = none := by
    rw [List.find?_eq_none]
    intro p hp
    obtain ⟨j, hj, rfl⟩ := List.getElem_of_mem hp
    have hjk : j < (keys l).length := by simpa [keys] using hj
    simp only [beq_iff_eq]
    intro e
    have ek : (keys l)[j] = k := by rw [keys_at]; exact e
    rcases (by omega : j < i ∨ i ≤ j) with h1 | h1
    · have := hat.low j h1 hjk; rw [ek, lt_irrefl] at this; cases this
    · rcases (by omega : i = j ∨ i < j) with h2 | h2
      · subst h2
        exact h (by rw [List.getElem?_eq_getElem hjk, ek])
      · have h3 := hr i j h2 hjk
        rw [ek, hat.high i (Nat.le_refl _) (by omega)] at h3
        cases h3
  simp [findVal, hf]

set_option maxRecDepth 100000 in
set_option maxHeartbeats 1000000 in
theorem treeGet_ok (w : World) (A : Option Addr) (l : List Pr) (c : Nat) (K : Option Addr) (k : List UInt8) (c1 : Nat) (ha : Ps All w A l) (hk : Bs All w K k) :
    Calls Tryd.prog 66 #[.slice A l.length c, .slice K k.length c1] w (RetGet w (getS l k)) := by
  have Ha := Lib.hid ha
  have Hk := Lib.hid hk
  clear ha hk
  by_cases h1 : pairsFaultS l = 0
  · by_cases h2 : keyFault k = 0
    · have H1 := Lib.hid h1
      have H2 := Lib.hid h2
      have b1 : (pairsFaultS l != 0) = false := by simp [h1]
      have b2 : (keyFault k != 0) = false := by simp [h2]
      obtain ⟨hl60, _, hrise⟩ := pairs_fine h1
      have Hr := Lib.hid (show Rise (keys l) from hrise)
      have Hl := Lib.hid hl60
      clear h1 h2 hrise hl60
      go_enter Tryd.func66, Tryd.ntmps66
      go_wp2_with (first
        | (go_at_call 47; refine (treeCheck_ok _ A l c (Ha.out.below pairR_stays ?_)).mono ?_; (repeat' (first | exact Below.refl _ _ | assumption | refine Below.drew ?_ | refine below_drewN ?_ _ | refine Below.alloc ?_ (by first | exact Nat.le_refl _ | omega | (simp; done) | (simp; omega)) _)); rintro e w1 ⟨rfl, hb1⟩)
        | (go_at_call 75; refine (pathCheck_ok _ K k c1).mono ?_; rintro e w2 ⟨rfl, rfl⟩))
      have hbw : Below w.heap.size w w1 := Below.next ((Below.refl _ _).alloc (Nat.le_refl _) _) hb1 (by first | (simp; done) | omega | (simp; omega))
      refine (treeFind_ok _ A l c K k c1 (Ha.out.below pairR_stays hbw) (Hk.out.bbelow hbw) Hl.out Hr.out).mono ?_
      rintro e w3 ⟨i, rfl, hat, hb3⟩
      have hx1 := (hb1.block w.heap.size (by first | (simp; done) | omega | (simp; omega))).trans (box_new w _ _)
      have hs1 : w.heap.size + 1 ≤ w1.heap.size := by have := hb1.size; simpa using this
      have hx3 := (hb3.block w.heap.size (by omega)).trans hx1
      have Hx3 := Lib.hid hx3
      have hbw3 := hbw.next hb3 (by omega)
      have Hb1 := Lib.hid hb1
      have Hat := Lib.hid hat
      clear hx1 hx3 hb1 hat
      by_cases hf : (keys l)[i]? = some k
      · have hil : i < l.length := by
          have := (List.getElem?_eq_some_iff.1 hf).1
          simpa [keys] using this
        have hki : l[i].1 = k := by
          have := (List.getElem?_eq_some_iff.1 hf).2
          rw [keys_at] at this
          exact this
        have Hgs := Lib.hid (getS_found H1.out H2.out (findVal_at Hr.out hil hki))
        rw [decide_eq_true hf]
        obtain ⟨ab, ao, K0, c0, V0, d0, rfl, _, hal, hc1, hc2, hs1, hs2, _, hvl⟩ := pairs_at (Ha.out.below pairR_stays hbw3) hil
        clear hf hki
        generalize l[i] = x at *
        obtain ⟨g0, g1, f0, f1⟩ := box2 Hx3.out
        go_wp2_with (go_at_call 61; refine (clone_ok _ V0 x.2 d0 hs2.bz hvl).mono ?_; rintro e w4 ⟨A4, c4, rfl, hs4, hb4⟩; clear g0 g1 f0 f1; obtain ⟨g0, g1, f0, f1⟩ := box2 ((hb4.block w.heap.size (by have := hb3.size; omega)).trans Hx3.out))
        have hs3 : w.heap.size + 1 ≤ w3.heap.size := by have := hb3.size; omega
        have hs4' := hb4.size
        refine bodyPost_ret (v := .tuple #[.agg #[.bool true, .slice A4 x.2.length c4], .int .i64 0]) (by simp [results, Tryd.results66, go_sem, g0, g1]) rfl ?_
        rw [Hgs.out]
        exact ⟨A4, c4, rfl, (hs4.bsame (((Same.refl _ _).setCell (fun hq => by simp only [From] at hq; omega) _).setCell (fun hq => by simp only [From] at hq; omega) _)).blo (by omega), Below.setCell (Below.setCell (hbw3.next hb4 (by omega)) (Nat.le_refl _) _) (Nat.le_refl _) _⟩
      · have Hgs := Lib.hid (getS_none H1.out H2.out (findVal_of_at Hr.out Hat.out hf))
        rw [decide_eq_false hf]
        clear hf
        obtain ⟨g0, g1, f0, f1⟩ := box2 Hx3.out
        go_wp2
        refine bodyPost_ret (v := .tuple #[.agg #[.bool false, .slice none 0 0], .int .i64 0]) (by simp [results, Tryd.results66, go_sem, g0, g1]) rfl ?_
        rw [Hgs.out]
        exact ⟨none, 0, rfl, SL.nil, Below.setCell (Below.setCell hbw3 (Nat.le_refl _) _) (Nat.le_refl _) _⟩
    · have Hgs := Lib.hid (getS_key h1 h2)
      have b1 : (pairsFaultS l != 0) = false := by simp [h1]
      have b2 : (keyFault k != 0) = true := by simpa using h2
      clear h1 h2
      go_enter Tryd.func66, Tryd.ntmps66
      go_wp2_with (first
        | (go_at_call 47; refine (treeCheck_ok _ A l c (Ha.out.below pairR_stays ?_)).mono ?_; (repeat' (first | exact Below.refl _ _ | assumption | refine Below.drew ?_ | refine below_drewN ?_ _ | refine Below.alloc ?_ (by first | exact Nat.le_refl _ | omega | (simp; done) | (simp; omega)) _)); rintro e w1 ⟨rfl, hb1⟩; obtain ⟨g0, g1, f0, f1⟩ := box2 ((hb1.block w.heap.size (by first | (simp; done) | omega | (simp; omega))).trans (box_new w _ _)))
        | (go_at_call 75; refine (pathCheck_ok _ K k c1).mono ?_; rintro e w2 ⟨rfl, rfl⟩))
      refine bodyPost_ret (v := .tuple #[.agg #[.bool false, .slice none 0 0], .int .i64 (keyFault k)]) (by simp [results, Tryd.results66, go_sem, g0, g1]) rfl ?_
      rw [Hgs.out]
      exact ⟨none, 0, rfl, SL.nil, Below.setCell (Below.setCell (Below.next ((Below.refl _ _).alloc (Nat.le_refl _) _) hb1 (by first | (simp; done) | omega | (simp; omega))) (Nat.le_refl _) _) (Nat.le_refl _) _⟩
  · have Hgs := Lib.hid (getS_pairs (k := k) h1)
    have b1 : (pairsFaultS l != 0) = true := by simpa using h1
    clear h1
    go_enter Tryd.func66, Tryd.ntmps66
    go_wp2_with (go_at_call 47; refine (treeCheck_ok _ A l c (Ha.out.below pairR_stays ?_)).mono ?_; (repeat' (first | exact Below.refl _ _ | assumption | refine Below.drew ?_ | refine below_drewN ?_ _ | refine Below.alloc ?_ (by first | exact Nat.le_refl _ | omega | (simp; done) | (simp; omega)) _)); rintro e w1 ⟨rfl, hb1⟩; obtain ⟨g0, g1, f0, f1⟩ := box2 ((hb1.block w.heap.size (by first | (simp; done) | omega | (simp; omega))).trans (box_new w _ _)))
    refine bodyPost_ret (v := .tuple #[.agg #[.bool false, .slice none 0 0], .int .i64 (pairsFaultS l)]) (by simp [results, Tryd.results66, go_sem, g0, g1]) rfl ?_
    rw [Hgs.out]
    exact ⟨none, 0, rfl, SL.nil, Below.setCell (Below.setCell (Below.next ((Below.refl _ _).alloc (Nat.le_refl _) _) hb1 (by first | (simp; done) | omega | (simp; omega))) (Nat.le_refl _) _) (Nat.le_refl _) _⟩
end Go.Proofs.YtjgdeeabejoegaaDoor
