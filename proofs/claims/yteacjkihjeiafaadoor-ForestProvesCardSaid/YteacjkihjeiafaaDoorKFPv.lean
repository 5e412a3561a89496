/- FPv: Walks: forest.Prove and ForestProof; the law ForestProves. The conditions of each are in its words. -/
import Derived.Test.YteacjkihjeiafaaDoorKPv
import Derived.Test.YteacjkihjeiafaaDoorKFRoot
namespace Go.Proofs.YteacjkihjeiafaaDoor
open Go.RowKit
set_option linter.unusedVariables false
set_option linter.unusedSimpArgs false

/-- What forest.Prove and ForestProof answer. -/
def fpS (l : List Tn) (n k : List UInt8) : (Pf × Pf) × Int :=
  if fnFault l n ≠ 0 then ((pf0, pf0), fnFault l n) else if keyFault k ≠ 0 then ((pf0, pf0), keyFault k) else (((proveS (l.map rootP) n).1, (proveS (pairsOfS l n) k).1), 0)
/-- The call returns two proofs and a number. -/
def RetPf2 (w : World) (r : (Pf × Pf) × Int) (e : Ending) (w' : World) : Prop :=
  ∃ A n K a V b A' n' K' a' V' b', e = .returned (.tuple #[.agg #[.bool r.1.1.empty, .slice A r.1.1.steps.length n, .slice K r.1.1.pair.1.length a, .slice V r.1.1.pair.2.length b], .agg #[.bool r.1.2.empty, .slice A' r.1.2.steps.length n', .slice K' r.1.2.pair.1.length a', .slice V' r.1.2.pair.2.length b'], .int .i64 r.2]) ∧
    (Sts (From w.heap.size) w' A r.1.1.steps ∧ Bs (From w.heap.size) w' K r.1.1.pair.1 ∧ Bs (From w.heap.size) w' V r.1.1.pair.2) ∧ (Sts (From w.heap.size) w' A' r.1.2.steps ∧ Bs (From w.heap.size) w' K' r.1.2.pair.1 ∧ Bs (From w.heap.size) w' V' r.1.2.pair.2) ∧ Below w.heap.size w w'
theorem drew_heap (w : World) : w.drew.heap = w.heap := rfl
theorem pk_of {l : List Pr} {k : List UInt8} (h : pairsFaultS l = 0) : pkFault l k = keyFault k := by unfold pkFault; rw [if_neg (by simpa using h)]
theorem proveS_err (l : List Pr) (k : List UInt8) : (proveS l k).2 = pkFault l k := by
  unfold proveS
  split
  · rfl
  · rename_i h
    rw [Decidable.not_not] at h
    split <;> exact h.symm
theorem prove_name {l : List Tn} {n : List UInt8} (h : forestFaultS l = 0) (hn : nameFault n = 0) : (proveS (l.map rootP) n).2 = 0 := by
  rw [proveS_err, pk_of (roots_fine h)]
  exact (name_key hn).1
theorem prove_key {l : List Tn} {n k : List UInt8} (h : forestFaultS l = 0) : (proveS (pairsOfS l n) k).2 = keyFault k := by
  rw [proveS_err, pk_of (Fine.old h n)]
theorem prove_zero {l : List Pr} {k : List UInt8} (h : (proveS l k).2 ≠ 0) : (proveS l k).1 = pf0 := by
  rw [proveS_err] at h
  unfold proveS
  rw [if_pos h]
theorem rootsProve_ok (w : World) (hT : TabsAt w) (A : Option Addr) (l : List Tn) (c : Nat) (K : Option Addr) (k : List UInt8) (kc : Nat) (ha : Ps All w A (l.map rootP)) (hk : Bs All w K k) (hc : (l.map rootP).length ≤ c) :
    Calls Tryd.prog 39 #[.slice A l.length c, .slice K k.length kc] w (RetPfE w (proveS (l.map rootP) k)) := by
  have := prove_ok w hT A (l.map rootP) c K k kc ha hk hc
  rw [List.length_map] at this
  exact this
theorem rootsProofOf_ok (w : World) (A : Option Addr) (l : List Tn) (c : Nat) (K : Option Addr) (k : List UInt8) (kc : Nat) (ha : Ps All w A (l.map rootP)) (hk : Bs All w K k) :
    Calls Tryd.prog 46 #[.slice A l.length c, .slice K k.length kc] w (RetPfE w (proveS (l.map rootP) k)) := by
  have := proofOf_ok w A (l.map rootP) c K k kc ha hk
  rw [List.length_map] at this
  exact this
set_option maxRecDepth 100000 in
set_option maxHeartbeats 1000000 in
theorem forestProve_ok (w : World) (hT : TabsAt w) (A : Option Addr) (l : List Tn) (c : Nat) (N : Option Addr) (n : List UInt8) (nc : Nat) (K : Option Addr) (k : List UInt8) (kc : Nat) (ha : Ts All w A l) (hn : Bs All w N n) (hk : Bs All w K k) :
    Calls Tryd.prog 14 #[.slice A l.length c, .slice N n.length nc, .slice K k.length kc] w (RetPf2 w (fpS l n k)) := by
  have HT := Lib.hid hT
  have Ha := Lib.hid ha
  have Hn := Lib.hid hn
  have Hk := Lib.hid hk
  clear hT ha hn hk
  have Hz0 := Lib.hid (show ((w.alloc (.cells #[.bool false, .slice none 0 0, .slice none 0 0, .slice none 0 0] 27)).alloc (.cells #[.bool false, .slice none 0 0, .slice none 0 0, .slice none 0 0] 27)).heap[w.heap.size]? = some (.cells #[.bool false, .slice none 0 0, .slice none 0 0, .slice none 0 0] 27 (0, 0)) ∧ ((w.alloc (.cells #[.bool false, .slice none 0 0, .slice none 0 0, .slice none 0 0] 27)).alloc (.cells #[.bool false, .slice none 0 0, .slice none 0 0, .slice none 0 0] 27)).heap[w.heap.size + 1]? = some (.cells #[.bool false, .slice none 0 0, .slice none 0 0, .slice none 0 0] 27 (0, 0)) from ⟨(two_new w _ _).1, (two_new w _ _).2.1⟩)
  obtain ⟨ff, hff⟩ : ∃ ff, fnFault l n = ff := ⟨_, rfl⟩
  have Hf := Lib.hid hff
  by_cases hz : ff = 0
  · subst hz
    obtain ⟨hfl, hfn⟩ := fn_fine hff
    have Hfl := Lib.hid hfl
    have H8 := Lib.hid ((ten_fault_iff l).1 hfl).1
    have Hrise := Lib.hid ((ten_fault_iff l).1 hfl).2.2
    have Hpn := Lib.hid (prove_name hfl hfn)
    have Hpk := Lib.hid (prove_key (n := n) (k := k) hfl)
    obtain ⟨q, qe, hq⟩ : ∃ q qe, proveS (pairsOfS l n) k = (q, qe) := ⟨_, _, rfl⟩
    obtain ⟨p, pe, hp⟩ : ∃ p pe, proveS (l.map rootP) n = (p, pe) := ⟨_, _, rfl⟩
    have Hq := Lib.hid hq
    have Hp := Lib.hid hp
    have hqe := Hpk.out
    rw [hq] at hqe
    have hpe := Hpn.out
    rw [hp] at hpe
    simp only [] at hqe hpe
    subst hpe
    have Hqe := Lib.hid hqe
    by_cases hk : qe = 0
    · subst hk
      have Hv := Lib.hid (show fpS l n k = ((p, q), 0) by unfold fpS; rw [if_neg (by rw [hff]; simp), if_neg (by simp [← hqe]), hq, hp])
      have H7x := Lib.hid (fun (W : World) (B Q V : Option Addr) (b qc v : Nat) => show ((((W.setCell ⟨w.heap.size + 1, 0, none⟩ (.bool q.empty)).setCell ⟨w.heap.size + 1, 1, none⟩ (.slice B q.steps.length b)).setCell ⟨w.heap.size + 1, 2, none⟩ (.slice Q q.pair.1.length qc)).setCell ⟨w.heap.size + 1, 3, none⟩ (.slice V q.pair.2.length v)).heap[w.heap.size]? = W.heap[w.heap.size]? from by rw [Below.heap_setCell _ _ _ _ (by simp only []; omega), Below.heap_setCell _ _ _ _ (by simp only []; omega), Below.heap_setCell _ _ _ _ (by simp only []; omega), Below.heap_setCell _ _ _ _ (by simp only []; omega)])
      have H7y := Lib.hid (fun (W : World) (B Q V : Option Addr) (b qc v : Nat) (h : W.heap[w.heap.size + 1]? = some (.cells #[.bool false, .slice none 0 0, .slice none 0 0, .slice none 0 0] 27 (0, 0))) => show ((((W.setCell ⟨w.heap.size + 1, 0, none⟩ (.bool q.empty)).setCell ⟨w.heap.size + 1, 1, none⟩ (.slice B q.steps.length b)).setCell ⟨w.heap.size + 1, 2, none⟩ (.slice Q q.pair.1.length qc)).setCell ⟨w.heap.size + 1, 3, none⟩ (.slice V q.pair.2.length v)).heap[w.heap.size + 1]? = some (.cells #[.bool q.empty, .slice B q.steps.length b, .slice Q q.pair.1.length qc, .slice V q.pair.2.length v] 27 (0, 0)) from by rw [heap_setCell_same _ _ _ _ _ _ (heap_setCell_same _ _ _ _ _ _ (heap_setCell_same _ _ _ _ _ _ (heap_setCell_same _ _ _ _ _ _ h)))]; rfl)
      clear hff hfl hfn hq hp hqe
      go_enter Tryd.func14, Tryd.ntmps14
      go_wp2_with (first
        | (go_at_call 38; (with_reducible refine (forestChecked_ok _ A l c N n nc ?h1).mono ?_); (case h1 => (refine Ha.out.below tenR_stays ?_; repeat' (first | exact Below.refl _ _ | assumption | refine Below.drew ?_ | refine below_drewN ?_ _ | refine Below.setCell ?_ (by first | (simp; done) | omega | (simp; omega)) _ | refine Below.alloc ?_ (by first | exact Nat.le_refl _ | omega | (simp; done) | (simp; omega)) _))); rw [Hf.out]; rintro e1 w1 ⟨rfl, hb1⟩; have hq1 : Below w.heap.size w w1 := (Below.next (by repeat' (first | exact Below.refl _ _ | assumption | refine Below.drew ?_ | refine below_drewN ?_ _ | refine Below.setCell ?_ (by first | (simp; done) | omega | (simp; omega)) _ | refine Below.alloc ?_ (by first | exact Nat.le_refl _ | omega | (simp; done) | (simp; omega)) _)) hb1 (by simp; omega)); have hx1 := (hb1.block w.heap.size (by simp; omega)).trans Hz0.out.1; have hy1 := (hb1.block (w.heap.size + 1) (by simp)).trans Hz0.out.2; have hlt0 : w.heap.size < w1.heap.size := (Array.getElem?_eq_some_iff.1 hx1).1; have hlt1 : w.heap.size + 1 < w1.heap.size := (Array.getElem?_eq_some_iff.1 hy1).1; obtain ⟨r0, r1, r2, r3, r4, r5, r6, r7⟩ := box4p hx1; obtain ⟨s0, s1, s2, s3, s4, s5, s6, s7⟩ := box4p hy1)
        | (go_at_call 40; (with_reducible refine (forestPairs_ok _ A l c N n nc ?g1 ?g2 ?g3 Hrise.out).mono ?_); (case g1 => exact Ha.out.below tenR_stays hq1); (case g2 => exact Hn.out.bbelow hq1); (case g3 => (have := H8.out; omega)); rintro e2 w2 ⟨P, pc, rfl, hsP, _, hcP, hb2⟩; have hq2 := hq1.next hb2 hq1.size)
        | (go_at_call 39; (with_reducible refine (prove_ok _ ?t1 P (pairsOfS l n) pc K k kc hsP ?t2 hcP).mono ?_); (case t1 => exact HT.out.below hq2); (case t2 => exact Hk.out.bbelow hq2); rw [Hq.out]; rintro e3 w3 ⟨B, b, Q, qc, V, v, rfl, hi1, hi2, hi3, hb3⟩; have hq3 := hq2.next hb3 hq2.size; have hb13 := (hb2.mono (Nat.le_refl _)).next hb3 hb2.size; have hx3 := (hb13.block w.heap.size hlt0).trans hx1; have hy3 := (hb13.block (w.heap.size + 1) hlt1).trans hy1; have hl30 : w.heap.size < w3.heap.size := (Array.getElem?_eq_some_iff.1 hx3).1; have hl31 : w.heap.size + 1 < w3.heap.size := (Array.getElem?_eq_some_iff.1 hy3).1; obtain ⟨u0, u1, u2, u3, u4, u5, u6, u7⟩ := box4p hy3; obtain ⟨v0, v1, v2, v3, v4, v5, v6, v7⟩ := box4p hx3)
        | (go_at_call 41; (with_reducible refine (forestRoots_ok _ ?t1 A l c ?t2 H8.out (allFine_of Hfl.out)).mono ?_); (case t1 => exact HT.out.below ((((hq3.setCell (by simp only []; omega) _).setCell (by simp only []; omega) _).setCell (by simp only []; omega) _).setCell (by simp only []; omega) _)); (case t2 => exact Ha.out.below tenR_stays ((((hq3.setCell (by simp only []; omega) _).setCell (by simp only []; omega) _).setCell (by simp only []; omega) _).setCell (by simp only []; omega) _)); rintro e4 w4 ⟨C, cc, rfl, hcC, hsC, hb4⟩; have hq4 : Below w.heap.size w w4 := Below.next ((((hq3.setCell (by simp only []; omega) _).setCell (by simp only []; omega) _).setCell (by simp only []; omega) _).setCell (by simp only []; omega) _) hb4 (by simpa using hq3.size); have hz12 := hb2.size; have hz23 := hb3.size; have hz34 : w3.heap.size ≤ w4.heap.size := (by simpa using hb4.size))
        | (go_at_call 39; (with_reducible refine (rootsProve_ok _ ?t1 C l cc N n nc ?t2 ?t3 hcC).mono ?_); (case t1 => exact HT.out.below hq4); (case t2 => exact hsC.z pairR_stays); (case t3 => exact Hn.out.bbelow hq4); rw [Hp.out]; rintro e5 w5 ⟨D, d, E, ec, U, u, rfl, ho1, ho2, ho3, hb5⟩; have hq5 := hq4.next hb5 hq4.size; have hb35 : Below w3.heap.size ((((w3.setCell ⟨w.heap.size + 1, 0, none⟩ (.bool q.empty)).setCell ⟨w.heap.size + 1, 1, none⟩ (.slice B q.steps.length b)).setCell ⟨w.heap.size + 1, 2, none⟩ (.slice Q q.pair.1.length qc)).setCell ⟨w.heap.size + 1, 3, none⟩ (.slice V q.pair.2.length v)) w5 := (by have h1 := hb4; have h2 := hb5; exact (h1.mono (by simp)).next h2 (by have := hb4.size; simp at this; omega)); have hx5 := (hb35.block w.heap.size hl30).trans ((H7x.out w3 B Q V b qc v).trans hx3); have hy5 := (hb35.block (w.heap.size + 1) hl31).trans (H7y.out w3 B Q V b qc v hy3); obtain ⟨u0, u1, u2, u3, u4, u5, u6, u7⟩ := box4p hy5; obtain ⟨v0, v1, v2, v3, v4, v5, v6, v7⟩ := box4p hx5; have hl50 : w.heap.size < w5.heap.size := (Array.getElem?_eq_some_iff.1 hx5).1; have hl51 : w.heap.size + 1 < w5.heap.size := (Array.getElem?_eq_some_iff.1 hy5).1))
      obtain ⟨w6, hw6⟩ : ∃ w6, ((((w5.setCell ⟨w.heap.size, 0, none⟩ (.bool p.empty)).setCell ⟨w.heap.size, 1, none⟩ (.slice D p.steps.length d)).setCell ⟨w.heap.size, 2, none⟩ (.slice E p.pair.1.length ec)).setCell ⟨w.heap.size, 3, none⟩ (.slice U p.pair.2.length u)) = w6 := ⟨_, rfl⟩
      have x6 : w6.heap[w.heap.size]? = some (.cells #[.bool p.empty, .slice D p.steps.length d, .slice E p.pair.1.length ec, .slice U p.pair.2.length u] 27 (0, 0)) := by
        rw [← hw6, heap_setCell_same _ _ _ _ _ _ (heap_setCell_same _ _ _ _ _ _ (heap_setCell_same _ _ _ _ _ _ (heap_setCell_same _ _ _ _ _ _ hx5)))]
        rfl
      have y6 : w6.heap[w.heap.size + 1]? = some (.cells #[.bool q.empty, .slice B q.steps.length b, .slice Q q.pair.1.length qc, .slice V q.pair.2.length v] 27 (0, 0)) := by
        rw [← hw6, Below.heap_setCell _ _ _ _ (by simp only []; omega), Below.heap_setCell _ _ _ _ (by simp only []; omega), Below.heap_setCell _ _ _ _ (by simp only []; omega), Below.heap_setCell _ _ _ _ (by simp only []; omega)]
        exact hy5
      have hb6 : Below w.heap.size w w6 := by rw [← hw6]; exact ((((hq5.setCell (by simp only []; omega) _).setCell (by simp only []; omega) _).setCell (by simp only []; omega) _).setCell (by simp only []; omega) _)
      have hSi : Same (From w2.heap.size) w3 w6 := by rw [← hw6]; exact (((((((((((Same.refl _ _).setCell (fun h => by simp only [From] at h; omega) _).setCell (fun h => by simp only [From] at h; omega) _).setCell (fun h => by simp only [From] at h; omega) _).setCell (fun h => by simp only [From] at h; omega) _).trans (Same.of_below hb4)).trans (Same.of_below hb5)).setCell (fun h => by simp only [From] at h; omega) _).setCell (fun h => by simp only [From] at h; omega) _).setCell (fun h => by simp only [From] at h; omega) _).setCell (fun h => by simp only [From] at h; omega) _)
      have hSo : Same (From w4.heap.size) w5 w6 := by rw [← hw6]; exact (((((Same.refl _ _).setCell (fun h => by simp only [From] at h; omega) _).setCell (fun h => by simp only [From] at h; omega) _).setCell (fun h => by simp only [From] at h; omega) _).setCell (fun h => by simp only [From] at h; omega) _)
      rw [hw6]
      clear hw6 u0 u1 u2 u3 u4 u5 u6 u7 v0 v1 v2 v3 v4 v5 v6 v7 r0 r1 r2 r3 r4 r5 r6 r7 s0 s1 s2 s3 s4 s5 s6 s7
      obtain ⟨m0, m1, m2, m3, m4, m5, m6, m7⟩ := box4p x6
      obtain ⟨o0, o1, o2, o3, o4, o5, o6, o7⟩ := box4p y6
      have hz60 : w.heap.size < w6.heap.size := (Array.getElem?_eq_some_iff.1 x6).1
      have hz61 : w.heap.size + 1 < w6.heap.size := (Array.getElem?_eq_some_iff.1 y6).1
      go_region
      all_goals go_wp2
      obtain ⟨w7, hw7⟩ : ∃ w7, ((((((((w6.setCell ⟨w.heap.size, 0, none⟩ (.bool p.empty)).setCell ⟨w.heap.size, 1, none⟩ (.slice D p.steps.length d)).setCell ⟨w.heap.size, 2, none⟩ (.slice E p.pair.1.length ec)).setCell ⟨w.heap.size, 3, none⟩ (.slice U p.pair.2.length u)).setCell ⟨w.heap.size + 1, 0, none⟩ (.bool q.empty)).setCell ⟨w.heap.size + 1, 1, none⟩ (.slice B q.steps.length b)).setCell ⟨w.heap.size + 1, 2, none⟩ (.slice Q q.pair.1.length qc)).setCell ⟨w.heap.size + 1, 3, none⟩ (.slice V q.pair.2.length v)).drew = w7 := ⟨_, rfl⟩
      have x7 : w7.heap[w.heap.size]? = some (.cells #[.bool p.empty, .slice D p.steps.length d, .slice E p.pair.1.length ec, .slice U p.pair.2.length u] 27 (0, 0)) := by
        rw [← hw7, drew_heap, Below.heap_setCell _ _ _ _ (by simp only []; omega), Below.heap_setCell _ _ _ _ (by simp only []; omega), Below.heap_setCell _ _ _ _ (by simp only []; omega), Below.heap_setCell _ _ _ _ (by simp only []; omega), heap_setCell_same _ _ _ _ _ _ (heap_setCell_same _ _ _ _ _ _ (heap_setCell_same _ _ _ _ _ _ (heap_setCell_same _ _ _ _ _ _ x6)))]
        rfl
      have y7 : w7.heap[w.heap.size + 1]? = some (.cells #[.bool q.empty, .slice B q.steps.length b, .slice Q q.pair.1.length qc, .slice V q.pair.2.length v] 27 (0, 0)) := by
        rw [← hw7, drew_heap, heap_setCell_same _ _ _ _ _ _ (heap_setCell_same _ _ _ _ _ _ (heap_setCell_same _ _ _ _ _ _ (heap_setCell_same _ _ _ _ _ _ ((Below.heap_setCell _ _ _ _ (by simp only []; omega)).trans ((Below.heap_setCell _ _ _ _ (by simp only []; omega)).trans ((Below.heap_setCell _ _ _ _ (by simp only []; omega)).trans ((Below.heap_setCell _ _ _ _ (by simp only []; omega)).trans y6)))))))]
        rfl
      have hb7 : Below w.heap.size w w7 := by rw [← hw7]; exact ((((((((hb6.setCell (by simp only []; omega) _).setCell (by simp only []; omega) _).setCell (by simp only []; omega) _).setCell (by simp only []; omega) _).setCell (by simp only []; omega) _).setCell (by simp only []; omega) _).setCell (by simp only []; omega) _).setCell (by simp only []; omega) _).drew
      have hSi7 : Same (From w2.heap.size) w3 w7 := by rw [← hw7]; exact ((((((((hSi.setCell (fun h => by simp only [From] at h; omega) _).setCell (fun h => by simp only [From] at h; omega) _).setCell (fun h => by simp only [From] at h; omega) _).setCell (fun h => by simp only [From] at h; omega) _).setCell (fun h => by simp only [From] at h; omega) _).setCell (fun h => by simp only [From] at h; omega) _).setCell (fun h => by simp only [From] at h; omega) _).setCell (fun h => by simp only [From] at h; omega) _).drew
      have hSo7 : Same (From w4.heap.size) w5 w7 := by rw [← hw7]; exact ((((((((hSo.setCell (fun h => by simp only [From] at h; omega) _).setCell (fun h => by simp only [From] at h; omega) _).setCell (fun h => by simp only [From] at h; omega) _).setCell (fun h => by simp only [From] at h; omega) _).setCell (fun h => by simp only [From] at h; omega) _).setCell (fun h => by simp only [From] at h; omega) _).setCell (fun h => by simp only [From] at h; omega) _).setCell (fun h => by simp only [From] at h; omega) _).drew
      rw [hw7]
      obtain ⟨e0, e1, e2, e3, _⟩ := box4p x7
      obtain ⟨f0, f1, f2, f3, _⟩ := box4p y7
      refine bodyPost_ret (v := .tuple #[.agg #[.bool p.empty, .slice D p.steps.length d, .slice E p.pair.1.length ec, .slice U p.pair.2.length u], .agg #[.bool q.empty, .slice B q.steps.length b, .slice Q q.pair.1.length qc, .slice V q.pair.2.length v], .int .i64 0]) (by simp [results, Tryd.results14, go_sem, e0, e1, e2, e3, f0, f1, f2, f3]) rfl ?_
      rw [Hv.out]
      exact ⟨D, d, E, ec, U, u, B, b, Q, qc, V, v, rfl, ⟨(ho1.same stR_stays hSo7).lo stR_stays hq4.size, (ho2.bsame hSo7).blo hq4.size, (ho3.bsame hSo7).blo hq4.size⟩, ⟨(hi1.same stR_stays hSi7).lo stR_stays hq2.size, (hi2.bsame hSi7).blo hq2.size, (hi3.bsame hSi7).blo hq2.size⟩, hb7⟩
    · have Hv := Lib.hid (show fpS l n k = ((pf0, pf0), qe) by unfold fpS; rw [if_neg (by rw [hff]; simp), if_pos (by rw [← hqe]; exact hk), ← hqe])
      have hbq : (qe != 0) = true := by simpa using hk
      have Hq0 := Lib.hid (show q = pf0 by have h1 : (proveS (pairsOfS l n) k).2 ≠ 0 := (by rw [hq]; exact hk); have h2 := prove_zero h1; rw [hq] at h2; exact h2)
      have H7x := Lib.hid (fun (W : World) (B Q V : Option Addr) (b qc v : Nat) => show ((((W.setCell ⟨w.heap.size + 1, 0, none⟩ (.bool q.empty)).setCell ⟨w.heap.size + 1, 1, none⟩ (.slice B q.steps.length b)).setCell ⟨w.heap.size + 1, 2, none⟩ (.slice Q q.pair.1.length qc)).setCell ⟨w.heap.size + 1, 3, none⟩ (.slice V q.pair.2.length v)).heap[w.heap.size]? = W.heap[w.heap.size]? from by rw [Below.heap_setCell _ _ _ _ (by simp only []; omega), Below.heap_setCell _ _ _ _ (by simp only []; omega), Below.heap_setCell _ _ _ _ (by simp only []; omega), Below.heap_setCell _ _ _ _ (by simp only []; omega)])
      clear hff hfl hfn hq hp hqe hk
      go_enter Tryd.func14, Tryd.ntmps14
      go_wp2_with (first
        | (go_at_call 38; (with_reducible refine (forestChecked_ok _ A l c N n nc ?h1).mono ?_); (case h1 => (refine Ha.out.below tenR_stays ?_; repeat' (first | exact Below.refl _ _ | assumption | refine Below.drew ?_ | refine below_drewN ?_ _ | refine Below.setCell ?_ (by first | (simp; done) | omega | (simp; omega)) _ | refine Below.alloc ?_ (by first | exact Nat.le_refl _ | omega | (simp; done) | (simp; omega)) _))); rw [Hf.out]; rintro e1 w1 ⟨rfl, hb1⟩; have hq1 : Below w.heap.size w w1 := (Below.next (by repeat' (first | exact Below.refl _ _ | assumption | refine Below.drew ?_ | refine below_drewN ?_ _ | refine Below.setCell ?_ (by first | (simp; done) | omega | (simp; omega)) _ | refine Below.alloc ?_ (by first | exact Nat.le_refl _ | omega | (simp; done) | (simp; omega)) _)) hb1 (by simp; omega)); have hx1 := (hb1.block w.heap.size (by simp; omega)).trans Hz0.out.1; have hy1 := (hb1.block (w.heap.size + 1) (by simp)).trans Hz0.out.2; have hlt0 : w.heap.size < w1.heap.size := (Array.getElem?_eq_some_iff.1 hx1).1; have hlt1 : w.heap.size + 1 < w1.heap.size := (Array.getElem?_eq_some_iff.1 hy1).1; obtain ⟨r0, r1, r2, r3, r4, r5, r6, r7⟩ := box4p hx1; obtain ⟨s0, s1, s2, s3, s4, s5, s6, s7⟩ := box4p hy1)
        | (go_at_call 40; (with_reducible refine (forestPairs_ok _ A l c N n nc ?g1 ?g2 ?g3 Hrise.out).mono ?_); (case g1 => exact Ha.out.below tenR_stays hq1); (case g2 => exact Hn.out.bbelow hq1); (case g3 => (have := H8.out; omega)); rintro e2 w2 ⟨P, pc, rfl, hsP, _, hcP, hb2⟩; have hq2 := hq1.next hb2 hq1.size)
        | (go_at_call 39; (with_reducible refine (prove_ok _ ?t1 P (pairsOfS l n) pc K k kc hsP ?t2 hcP).mono ?_); (case t1 => exact HT.out.below hq2); (case t2 => exact Hk.out.bbelow hq2); rw [Hq.out]; rintro e3 w3 ⟨B, b, Q, qc, V, v, rfl, hi1, hi2, hi3, hb3⟩; have hq3 := hq2.next hb3 hq2.size; have hb13 := (hb2.mono (Nat.le_refl _)).next hb3 hb2.size; have hx3 := (hb13.block w.heap.size hlt0).trans hx1; have hy3 := (hb13.block (w.heap.size + 1) hlt1).trans hy1; have hl30 : w.heap.size < w3.heap.size := (Array.getElem?_eq_some_iff.1 hx3).1; have hl31 : w.heap.size + 1 < w3.heap.size := (Array.getElem?_eq_some_iff.1 hy3).1; obtain ⟨u0, u1, u2, u3, u4, u5, u6, u7⟩ := box4p hy3; obtain ⟨v0, v1, v2, v3, v4, v5, v6, v7⟩ := box4p hx3))
      obtain ⟨w4, hw4⟩ : ∃ w4, ((((w3.setCell ⟨w.heap.size + 1, 0, none⟩ (.bool q.empty)).setCell ⟨w.heap.size + 1, 1, none⟩ (.slice B q.steps.length b)).setCell ⟨w.heap.size + 1, 2, none⟩ (.slice Q q.pair.1.length qc)).setCell ⟨w.heap.size + 1, 3, none⟩ (.slice V q.pair.2.length v)) = w4 := ⟨_, rfl⟩
      have hx4 : w4.heap[w.heap.size]? = some (.cells #[.bool false, .slice none 0 0, .slice none 0 0, .slice none 0 0] 27 (0, 0)) := by rw [← hw4]; exact (H7x.out w3 B Q V b qc v).trans hx3
      have hy4 : w4.heap[w.heap.size + 1]? = some (.cells #[.bool q.empty, .slice B q.steps.length b, .slice Q q.pair.1.length qc, .slice V q.pair.2.length v] 27 (0, 0)) := by
        rw [← hw4, heap_setCell_same _ _ _ _ _ _ (heap_setCell_same _ _ _ _ _ _ (heap_setCell_same _ _ _ _ _ _ (heap_setCell_same _ _ _ _ _ _ hy3)))]
        rfl
      have hq4 : Below w.heap.size w w4 := by rw [← hw4]; exact ((((hq3.setCell (by simp only []; omega) _).setCell (by simp only []; omega) _).setCell (by simp only []; omega) _).setCell (by simp only []; omega) _)
      rw [hw4]
      clear hw4
      obtain ⟨w9, hw9⟩ : ∃ w9, ((((((((w4.setCell ⟨w.heap.size, 0, none⟩ (.bool false)).setCell ⟨w.heap.size, 1, none⟩ (.slice none 0 0)).setCell ⟨w.heap.size, 2, none⟩ (.slice none 0 0)).setCell ⟨w.heap.size, 3, none⟩ (.slice none 0 0)).setCell ⟨w.heap.size + 1, 0, none⟩ (.bool false)).setCell ⟨w.heap.size + 1, 1, none⟩ (.slice none 0 0)).setCell ⟨w.heap.size + 1, 2, none⟩ (.slice none 0 0)).setCell ⟨w.heap.size + 1, 3, none⟩ (.slice none 0 0)) = w9 := ⟨_, rfl⟩
      have hx9 : w9.heap[w.heap.size]? = some (.cells #[.bool false, .slice none 0 0, .slice none 0 0, .slice none 0 0] 27 (0, 0)) := by
        rw [← hw9, Below.heap_setCell _ _ _ _ (by simp only []; omega), Below.heap_setCell _ _ _ _ (by simp only []; omega), Below.heap_setCell _ _ _ _ (by simp only []; omega), Below.heap_setCell _ _ _ _ (by simp only []; omega), heap_setCell_same _ _ _ _ _ _ (heap_setCell_same _ _ _ _ _ _ (heap_setCell_same _ _ _ _ _ _ (heap_setCell_same _ _ _ _ _ _ hx4)))]
        rfl
      have hy9 : w9.heap[w.heap.size + 1]? = some (.cells #[.bool false, .slice none 0 0, .slice none 0 0, .slice none 0 0] 27 (0, 0)) := by
        rw [← hw9, heap_setCell_same _ _ _ _ _ _ (heap_setCell_same _ _ _ _ _ _ (heap_setCell_same _ _ _ _ _ _ (heap_setCell_same _ _ _ _ _ _ ((Below.heap_setCell _ _ _ _ (by simp only []; omega)).trans ((Below.heap_setCell _ _ _ _ (by simp only []; omega)).trans ((Below.heap_setCell _ _ _ _ (by simp only []; omega)).trans ((Below.heap_setCell _ _ _ _ (by simp only []; omega)).trans hy4)))))))]
        rfl
      have hb9 : Below w.heap.size w w9 := by rw [← hw9]; exact ((((((((hq4.setCell (by simp only []; omega) _).setCell (by simp only []; omega) _).setCell (by simp only []; omega) _).setCell (by simp only []; omega) _).setCell (by simp only []; omega) _).setCell (by simp only []; omega) _).setCell (by simp only []; omega) _).setCell (by simp only []; omega) _)
      rw [hw9]
      obtain ⟨e0, e1, e2, e3, _⟩ := box4p hx9
      obtain ⟨f0, f1, f2, f3, _⟩ := box4p hy9
      refine bodyPost_ret (v := .tuple #[.agg #[.bool false, .slice none 0 0, .slice none 0 0, .slice none 0 0], .agg #[.bool false, .slice none 0 0, .slice none 0 0, .slice none 0 0], .int .i64 qe]) (by simp [results, Tryd.results14, go_sem, e0, e1, e2, e3, f0, f1, f2, f3]) rfl ?_
      rw [Hv.out]
      exact ⟨none, 0, none, 0, none, 0, none, 0, none, 0, none, 0, rfl, ⟨SL.nil, SL.nil, SL.nil⟩, ⟨SL.nil, SL.nil, SL.nil⟩, hb9⟩
  · have Hv := Lib.hid (show fpS l n k = ((pf0, pf0), ff) by unfold fpS; rw [if_pos (by rw [hff]; exact hz), hff])
    have hb : (ff != 0) = true := by simpa using hz
    clear hff hz
    go_enter Tryd.func14, Tryd.ntmps14
    go_wp2_with ((go_at_call 38; (with_reducible refine (forestChecked_ok _ A l c N n nc ?h1).mono ?_); (case h1 => (refine Ha.out.below tenR_stays ?_; repeat' (first | exact Below.refl _ _ | assumption | refine Below.drew ?_ | refine below_drewN ?_ _ | refine Below.setCell ?_ (by first | (simp; done) | omega | (simp; omega)) _ | refine Below.alloc ?_ (by first | exact Nat.le_refl _ | omega | (simp; done) | (simp; omega)) _))); rw [Hf.out]; rintro e1 w1 ⟨rfl, hb1⟩; have hq1 : Below w.heap.size w w1 := (Below.next (by repeat' (first | exact Below.refl _ _ | assumption | refine Below.drew ?_ | refine below_drewN ?_ _ | refine Below.setCell ?_ (by first | (simp; done) | omega | (simp; omega)) _ | refine Below.alloc ?_ (by first | exact Nat.le_refl _ | omega | (simp; done) | (simp; omega)) _)) hb1 (by simp; omega)); have hx1 := (hb1.block w.heap.size (by simp; omega)).trans Hz0.out.1; have hy1 := (hb1.block (w.heap.size + 1) (by simp)).trans Hz0.out.2; have hlt0 : w.heap.size < w1.heap.size := (Array.getElem?_eq_some_iff.1 hx1).1; have hlt1 : w.heap.size + 1 < w1.heap.size := (Array.getElem?_eq_some_iff.1 hy1).1; obtain ⟨r0, r1, r2, r3, r4, r5, r6, r7⟩ := box4p hx1; obtain ⟨s0, s1, s2, s3, s4, s5, s6, s7⟩ := box4p hy1))
    obtain ⟨w9, hw9⟩ : ∃ w9, ((((((((w1.setCell ⟨w.heap.size, 0, none⟩ (.bool false)).setCell ⟨w.heap.size, 1, none⟩ (.slice none 0 0)).setCell ⟨w.heap.size, 2, none⟩ (.slice none 0 0)).setCell ⟨w.heap.size, 3, none⟩ (.slice none 0 0)).setCell ⟨w.heap.size + 1, 0, none⟩ (.bool false)).setCell ⟨w.heap.size + 1, 1, none⟩ (.slice none 0 0)).setCell ⟨w.heap.size + 1, 2, none⟩ (.slice none 0 0)).setCell ⟨w.heap.size + 1, 3, none⟩ (.slice none 0 0)) = w9 := ⟨_, rfl⟩
    have hx9 : w9.heap[w.heap.size]? = some (.cells #[.bool false, .slice none 0 0, .slice none 0 0, .slice none 0 0] 27 (0, 0)) := by
      rw [← hw9, Below.heap_setCell _ _ _ _ (by simp only []; omega), Below.heap_setCell _ _ _ _ (by simp only []; omega), Below.heap_setCell _ _ _ _ (by simp only []; omega), Below.heap_setCell _ _ _ _ (by simp only []; omega), heap_setCell_same _ _ _ _ _ _ (heap_setCell_same _ _ _ _ _ _ (heap_setCell_same _ _ _ _ _ _ (heap_setCell_same _ _ _ _ _ _ hx1)))]
      rfl
    have hy9 : w9.heap[w.heap.size + 1]? = some (.cells #[.bool false, .slice none 0 0, .slice none 0 0, .slice none 0 0] 27 (0, 0)) := by
      rw [← hw9, heap_setCell_same _ _ _ _ _ _ (heap_setCell_same _ _ _ _ _ _ (heap_setCell_same _ _ _ _ _ _ (heap_setCell_same _ _ _ _ _ _ ((Below.heap_setCell _ _ _ _ (by simp only []; omega)).trans ((Below.heap_setCell _ _ _ _ (by simp only []; omega)).trans ((Below.heap_setCell _ _ _ _ (by simp only []; omega)).trans ((Below.heap_setCell _ _ _ _ (by simp only []; omega)).trans hy1)))))))]
      rfl
    have hb9 : Below w.heap.size w w9 := by rw [← hw9]; exact ((((((((hq1.setCell (by simp only []; omega) _).setCell (by simp only []; omega) _).setCell (by simp only []; omega) _).setCell (by simp only []; omega) _).setCell (by simp only []; omega) _).setCell (by simp only []; omega) _).setCell (by simp only []; omega) _).setCell (by simp only []; omega) _)
    rw [hw9]
    obtain ⟨e0, e1, e2, e3, _⟩ := box4p hx9
    obtain ⟨f0, f1, f2, f3, _⟩ := box4p hy9
    refine bodyPost_ret (v := .tuple #[.agg #[.bool false, .slice none 0 0, .slice none 0 0, .slice none 0 0], .agg #[.bool false, .slice none 0 0, .slice none 0 0, .slice none 0 0], .int .i64 ff]) (by simp [results, Tryd.results14, go_sem, e0, e1, e2, e3, f0, f1, f2, f3]) rfl ?_
    rw [Hv.out]
    exact ⟨none, 0, none, 0, none, 0, none, 0, none, 0, none, 0, rfl, ⟨SL.nil, SL.nil, SL.nil⟩, ⟨SL.nil, SL.nil, SL.nil⟩, hb9⟩

set_option maxRecDepth 100000 in
set_option maxHeartbeats 2000000 in
theorem forestProof_ok (w : World) (A : Option Addr) (l : List Tn) (c : Nat) (N : Option Addr) (n : List UInt8) (nc : Nat) (K : Option Addr) (k : List UInt8) (kc : Nat) (ha : Ts All w A l) (hn : Bs All w N n) (hk : Bs All w K k) :
    Calls Tryd.prog 15 #[.slice A l.length c, .slice N n.length nc, .slice K k.length kc] w (RetPf2 w (fpS l n k)) := by
  have Ha := Lib.hid ha
  have Hn := Lib.hid hn
  have Hk := Lib.hid hk
  clear ha hn hk
  have Hz0 := Lib.hid (show ((w.alloc (.cells #[.bool false, .slice none 0 0, .slice none 0 0, .slice none 0 0] 27)).alloc (.cells #[.bool false, .slice none 0 0, .slice none 0 0, .slice none 0 0] 27)).heap[w.heap.size]? = some (.cells #[.bool false, .slice none 0 0, .slice none 0 0, .slice none 0 0] 27 (0, 0)) ∧ ((w.alloc (.cells #[.bool false, .slice none 0 0, .slice none 0 0, .slice none 0 0] 27)).alloc (.cells #[.bool false, .slice none 0 0, .slice none 0 0, .slice none 0 0] 27)).heap[w.heap.size + 1]? = some (.cells #[.bool false, .slice none 0 0, .slice none 0 0, .slice none 0 0] 27 (0, 0)) from ⟨(two_new w _ _).1, (two_new w _ _).2.1⟩)
  obtain ⟨ff, hff⟩ : ∃ ff, fnFault l n = ff := ⟨_, rfl⟩
  have Hf := Lib.hid hff
  obtain ⟨kf, hkf⟩ : ∃ kf, keyFault k = kf := ⟨_, rfl⟩
  have Hkf := Lib.hid hkf
  by_cases hz : ff = 0
  · subst hz
    obtain ⟨hfl, hfn⟩ := fn_fine hff
    by_cases hk : kf = 0
    · subst hk
      have Hfl := Lib.hid hfl
      have H8 := Lib.hid ((ten_fault_iff l).1 hfl).1
      obtain ⟨q, qe, hq⟩ : ∃ q qe, proveS (pairsOfS l n) k = (q, qe) := ⟨_, _, rfl⟩
      obtain ⟨p, pe, hp⟩ : ∃ p pe, proveS (l.map rootP) n = (p, pe) := ⟨_, _, rfl⟩
      have Hq := Lib.hid hq
      have Hp := Lib.hid hp
      have Hv := Lib.hid (show fpS l n k = ((p, q), 0) by unfold fpS; rw [if_neg (by rw [hff]; simp), if_neg (by rw [hkf]; simp), hq, hp])
      clear hff hfl hfn hq hp hkf
      go_enter Tryd.func15, Tryd.ntmps15
      go_wp2_with (first
        | (go_at_call 42; (with_reducible refine (forestAndName_ok _ A l c N n nc ?h1).mono ?_); (case h1 => (refine Ha.out.below tenR_stays ?_; repeat' (first | exact Below.refl _ _ | assumption | refine Below.drew ?_ | refine below_drewN ?_ _ | refine Below.setCell ?_ (by first | (simp; done) | omega | (simp; omega)) _ | refine Below.alloc ?_ (by first | exact Nat.le_refl _ | omega | (simp; done) | (simp; omega)) _))); rw [Hf.out]; rintro e1 w1 ⟨rfl, hb1⟩; have hq1 : Below w.heap.size w w1 := (Below.next (by repeat' (first | exact Below.refl _ _ | assumption | refine Below.drew ?_ | refine below_drewN ?_ _ | refine Below.setCell ?_ (by first | (simp; done) | omega | (simp; omega)) _ | refine Below.alloc ?_ (by first | exact Nat.le_refl _ | omega | (simp; done) | (simp; omega)) _)) hb1 (by simp; omega)); have hx1 := (hb1.block w.heap.size (by simp; omega)).trans Hz0.out.1; have hy1 := (hb1.block (w.heap.size + 1) (by simp)).trans Hz0.out.2; have hlt0 : w.heap.size < w1.heap.size := (Array.getElem?_eq_some_iff.1 hx1).1; have hlt1 : w.heap.size + 1 < w1.heap.size := (Array.getElem?_eq_some_iff.1 hy1).1; obtain ⟨r0, r1, r2, r3, r4, r5, r6, r7⟩ := box4p hx1; obtain ⟨s0, s1, s2, s3, s4, s5, s6, s7⟩ := box4p hy1)
        | (go_at_call 43; (with_reducible refine (keyFault_ok _ K k kc).mono ?_); rintro e2 w2 ⟨rfl, rfl⟩; rw [Hkf.out])
        | (go_at_call 44; (with_reducible refine (pairsOf_ok _ A l c N n nc ?g1 ?g2 ?g3).mono ?_); (case g1 => exact Ha.out.below tenR_stays hq1); (case g2 => exact Hn.out.bbelow hq1); (case g3 => (have := H8.out; omega)); rintro e3 w3 ⟨P, pc, rfl, hsP, _, hcP, hb3⟩; have hq3 := hq1.next hb3 hq1.size)
        | (go_at_call 45; (with_reducible refine (rootsOf_ok _ A l c ?g1 H8.out (allFine_of Hfl.out)).mono ?_); (case g1 => exact Ha.out.below tenR_stays hq3); rintro e4 w4 ⟨C, cc, rfl, hcC, hsC, hb4⟩; have hq4 := hq3.next hb4 hq3.size)
        | (go_at_call 46; (with_reducible refine (proofOf_ok _ P (pairsOfS l n) pc K k kc ?t1 ?t2).mono ?_); (case t1 => exact hsP.below pairR_stays hb4); (case t2 => exact Hk.out.bbelow hq4); rw [Hq.out]; rintro e5 w5 ⟨B, b, Q, qc, V, v, rfl, hi1, hi2, hi3, hb5⟩; have hq5 := hq4.next hb5 hq4.size)
        | (go_at_call 46; (with_reducible refine (rootsProofOf_ok _ C l cc N n nc ?t1 ?t2).mono ?_); (case t1 => exact ((hsC.z pairR_stays).below pairR_stays hb5).same pairR_stays ((Same.refl _ _).alloc _)); (case t2 => exact Hn.out.bbelow (hq5.alloc hq5.size _)); rw [Hp.out]; rintro e6 w6 ⟨D, d, E, ec, U, u, rfl, ho1, ho2, ho3, hb6⟩; have hq6 : Below w.heap.size w w6 := (hq5.alloc hq5.size _).next hb6 (by have := hq5.size; simp; omega); have hb16 : Below w1.heap.size w1 w6 := (((hb3.next hb4 hb3.size).next hb5 (Nat.le_trans hb3.size hb4.size)).alloc (Nat.le_trans hb3.size (Nat.le_trans hb4.size hb5.size)) _).next hb6 (by have := hb3.size; have := hb4.size; have := hb5.size; simp; omega); have hx6 := (hb16.block w.heap.size hlt0).trans hx1; have hy6 := (hb16.block (w.heap.size + 1) hlt1).trans hy1; have hi6 := (hb6.block w5.heap.size (by simp)).trans (box_new w5 _ _); have hz56 : w5.heap.size < w6.heap.size := (Array.getElem?_eq_some_iff.1 hi6).1; have hz16 := hb16.size; have hz15 : w1.heap.size ≤ w5.heap.size := Nat.le_trans hb3.size (Nat.le_trans hb4.size hb5.size); have hl60 : w.heap.size < w6.heap.size := (by omega); have hl61 : w.heap.size + 1 < w6.heap.size := (by omega)))
      obtain ⟨W7, hW7⟩ : ∃ W7, w6.alloc (.cells #[.bool p.empty, .slice D p.steps.length d, .slice E p.pair.1.length ec, .slice U p.pair.2.length u] 27) = W7 := ⟨_, rfl⟩
      have x7 : W7.heap[w.heap.size]? = some (.cells #[.bool false, .slice none 0 0, .slice none 0 0, .slice none 0 0] 27 (0, 0)) := by rw [← hW7]; exact (heap_alloc_old _ _ hl60).trans hx6
      have y7 : W7.heap[w.heap.size + 1]? = some (.cells #[.bool false, .slice none 0 0, .slice none 0 0, .slice none 0 0] 27 (0, 0)) := by rw [← hW7]; exact (heap_alloc_old _ _ hl61).trans hy6
      have i7 : W7.heap[w5.heap.size]? = some (.cells #[.bool q.empty, .slice B q.steps.length b, .slice Q q.pair.1.length qc, .slice V q.pair.2.length v] 27 (0, 0)) := by rw [← hW7]; exact (heap_alloc_old _ _ hz56).trans hi6
      have o7 : W7.heap[w6.heap.size]? = some (.cells #[.bool p.empty, .slice D p.steps.length d, .slice E p.pair.1.length ec, .slice U p.pair.2.length u] 27 (0, 0)) := by rw [← hW7]; exact box_new w6 _ _
      have hq7 : Below w.heap.size w W7 := by rw [← hW7]; exact hq6.alloc hq6.size _
      have hSo : Same (From (w5.alloc (.cells #[.bool q.empty, .slice B q.steps.length b, .slice Q q.pair.1.length qc, .slice V q.pair.2.length v] 27)).heap.size) w6 W7 := by rw [← hW7]; exact (Same.refl _ _).alloc _
      have hSi : Same (From w4.heap.size) w5 W7 := by rw [← hW7]; exact (((Same.refl _ _).alloc _).trans (Same.of_below hb6)).alloc _
      have hz7 : W7.heap.size = w6.heap.size + 1 := by rw [← hW7]; simp
      have hz5a : (w5.alloc (.cells #[.bool q.empty, .slice B q.steps.length b, .slice Q q.pair.1.length qc, .slice V q.pair.2.length v] 27)).heap.size = w5.heap.size + 1 := by simp
      have hz34 := hb4.size
      have hz13 := hb3.size
      have hz45 := hb5.size
      rw [hW7]
      clear hW7 r0 r1 r2 r3 r4 r5 r6 r7 s0 s1 s2 s3 s4 s5 s6 s7
      obtain ⟨r0, r1, r2, r3, r4, r5, r6, r7⟩ := box4p x7
      obtain ⟨s0, s1, s2, s3, s4, s5, s6, s7⟩ := box4p y7
      obtain ⟨m0, m1, m2, m3, _⟩ := box4p i7
      obtain ⟨o0, o1, o2, o3, _⟩ := box4p o7
      have l1 : w.heap.size < W7.heap.size := by omega
      have l2 : w.heap.size + 1 < W7.heap.size := by omega
      have l3 : w5.heap.size < W7.heap.size := by omega
      have l4 : w6.heap.size < W7.heap.size := by omega
      go_region
      all_goals go_wp2
      obtain ⟨w8, hw8⟩ : ∃ w8, ((((((((W7.setCell ⟨w.heap.size, 0, none⟩ (.bool p.empty)).setCell ⟨w.heap.size, 1, none⟩ (.slice D p.steps.length d)).setCell ⟨w.heap.size, 2, none⟩ (.slice E p.pair.1.length ec)).setCell ⟨w.heap.size, 3, none⟩ (.slice U p.pair.2.length u)).setCell ⟨w.heap.size + 1, 0, none⟩ (.bool q.empty)).setCell ⟨w.heap.size + 1, 1, none⟩ (.slice B q.steps.length b)).setCell ⟨w.heap.size + 1, 2, none⟩ (.slice Q q.pair.1.length qc)).setCell ⟨w.heap.size + 1, 3, none⟩ (.slice V q.pair.2.length v)).drew = w8 := ⟨_, rfl⟩
      have x8 : w8.heap[w.heap.size]? = some (.cells #[.bool p.empty, .slice D p.steps.length d, .slice E p.pair.1.length ec, .slice U p.pair.2.length u] 27 (0, 0)) := by
        rw [← hw8, drew_heap, Below.heap_setCell _ _ _ _ (by simp only []; omega), Below.heap_setCell _ _ _ _ (by simp only []; omega), Below.heap_setCell _ _ _ _ (by simp only []; omega), Below.heap_setCell _ _ _ _ (by simp only []; omega), heap_setCell_same _ _ _ _ _ _ (heap_setCell_same _ _ _ _ _ _ (heap_setCell_same _ _ _ _ _ _ (heap_setCell_same _ _ _ _ _ _ x7)))]
        rfl
      have y8 : w8.heap[w.heap.size + 1]? = some (.cells #[.bool q.empty, .slice B q.steps.length b, .slice Q q.pair.1.length qc, .slice V q.pair.2.length v] 27 (0, 0)) := by
        rw [← hw8, drew_heap, heap_setCell_same _ _ _ _ _ _ (heap_setCell_same _ _ _ _ _ _ (heap_setCell_same _ _ _ _ _ _ (heap_setCell_same _ _ _ _ _ _ ((Below.heap_setCell _ _ _ _ (by simp only []; omega)).trans ((Below.heap_setCell _ _ _ _ (by simp only []; omega)).trans ((Below.heap_setCell _ _ _ _ (by simp only []; omega)).trans ((Below.heap_setCell _ _ _ _ (by simp only []; omega)).trans y7)))))))]
        rfl
      have hb8 : Below w.heap.size w w8 := by rw [← hw8]; exact ((((((((hq7.setCell (by simp only []; omega) _).setCell (by simp only []; omega) _).setCell (by simp only []; omega) _).setCell (by simp only []; omega) _).setCell (by simp only []; omega) _).setCell (by simp only []; omega) _).setCell (by simp only []; omega) _).setCell (by simp only []; omega) _).drew
      have hSi8 : Same (From w4.heap.size) w5 w8 := by rw [← hw8]; exact ((((((((hSi.setCell (fun h => by simp only [From] at h; omega) _).setCell (fun h => by simp only [From] at h; omega) _).setCell (fun h => by simp only [From] at h; omega) _).setCell (fun h => by simp only [From] at h; omega) _).setCell (fun h => by simp only [From] at h; omega) _).setCell (fun h => by simp only [From] at h; omega) _).setCell (fun h => by simp only [From] at h; omega) _).setCell (fun h => by simp only [From] at h; omega) _).drew
      have hSo8 : Same (From (w5.alloc (.cells #[.bool q.empty, .slice B q.steps.length b, .slice Q q.pair.1.length qc, .slice V q.pair.2.length v] 27)).heap.size) w6 w8 := by rw [← hw8]; exact ((((((((hSo.setCell (fun h => by simp only [From] at h; omega) _).setCell (fun h => by simp only [From] at h; omega) _).setCell (fun h => by simp only [From] at h; omega) _).setCell (fun h => by simp only [From] at h; omega) _).setCell (fun h => by simp only [From] at h; omega) _).setCell (fun h => by simp only [From] at h; omega) _).setCell (fun h => by simp only [From] at h; omega) _).setCell (fun h => by simp only [From] at h; omega) _).drew
      rw [hw8]
      obtain ⟨e0, e1, e2, e3, _⟩ := box4p x8
      obtain ⟨f0, f1, f2, f3, _⟩ := box4p y8
      refine bodyPost_ret (v := .tuple #[.agg #[.bool p.empty, .slice D p.steps.length d, .slice E p.pair.1.length ec, .slice U p.pair.2.length u], .agg #[.bool q.empty, .slice B q.steps.length b, .slice Q q.pair.1.length qc, .slice V q.pair.2.length v], .int .i64 0]) (by simp [results, Tryd.results15, go_sem, e0, e1, e2, e3, f0, f1, f2, f3]) rfl ?_
      rw [Hv.out]
      exact ⟨D, d, E, ec, U, u, B, b, Q, qc, V, v, rfl, ⟨(ho1.same stR_stays hSo8).lo stR_stays (by omega), (ho2.bsame hSo8).blo (by omega), (ho3.bsame hSo8).blo (by omega)⟩, ⟨(hi1.same stR_stays hSi8).lo stR_stays hq4.size, (hi2.bsame hSi8).blo hq4.size, (hi3.bsame hSi8).blo hq4.size⟩, hb8⟩
    · have Hv := Lib.hid (show fpS l n k = ((pf0, pf0), kf) by unfold fpS; rw [if_neg (by rw [hff]; simp), if_pos (by rw [hkf]; exact hk), hkf])
      have hb : (kf != 0) = true := by simpa using hk
      clear hff hk hkf hfl hfn
      go_enter Tryd.func15, Tryd.ntmps15
      go_wp2_with (first
        | (go_at_call 42; (with_reducible refine (forestAndName_ok _ A l c N n nc ?h1).mono ?_); (case h1 => (refine Ha.out.below tenR_stays ?_; repeat' (first | exact Below.refl _ _ | assumption | refine Below.drew ?_ | refine below_drewN ?_ _ | refine Below.setCell ?_ (by first | (simp; done) | omega | (simp; omega)) _ | refine Below.alloc ?_ (by first | exact Nat.le_refl _ | omega | (simp; done) | (simp; omega)) _))); rw [Hf.out]; rintro e1 w1 ⟨rfl, hb1⟩; have hq1 : Below w.heap.size w w1 := (Below.next (by repeat' (first | exact Below.refl _ _ | assumption | refine Below.drew ?_ | refine below_drewN ?_ _ | refine Below.setCell ?_ (by first | (simp; done) | omega | (simp; omega)) _ | refine Below.alloc ?_ (by first | exact Nat.le_refl _ | omega | (simp; done) | (simp; omega)) _)) hb1 (by simp; omega)); have hx1 := (hb1.block w.heap.size (by simp; omega)).trans Hz0.out.1; have hy1 := (hb1.block (w.heap.size + 1) (by simp)).trans Hz0.out.2; have hlt0 : w.heap.size < w1.heap.size := (Array.getElem?_eq_some_iff.1 hx1).1; have hlt1 : w.heap.size + 1 < w1.heap.size := (Array.getElem?_eq_some_iff.1 hy1).1; obtain ⟨r0, r1, r2, r3, r4, r5, r6, r7⟩ := box4p hx1; obtain ⟨s0, s1, s2, s3, s4, s5, s6, s7⟩ := box4p hy1)
        | (go_at_call 43; (with_reducible refine (keyFault_ok _ K k kc).mono ?_); rintro e2 w2 ⟨rfl, rfl⟩; rw [Hkf.out]))
      obtain ⟨w9, hw9⟩ : ∃ w9, ((((((((w1.setCell ⟨w.heap.size, 0, none⟩ (.bool false)).setCell ⟨w.heap.size, 1, none⟩ (.slice none 0 0)).setCell ⟨w.heap.size, 2, none⟩ (.slice none 0 0)).setCell ⟨w.heap.size, 3, none⟩ (.slice none 0 0)).setCell ⟨w.heap.size + 1, 0, none⟩ (.bool false)).setCell ⟨w.heap.size + 1, 1, none⟩ (.slice none 0 0)).setCell ⟨w.heap.size + 1, 2, none⟩ (.slice none 0 0)).setCell ⟨w.heap.size + 1, 3, none⟩ (.slice none 0 0)) = w9 := ⟨_, rfl⟩
      have hx9 : w9.heap[w.heap.size]? = some (.cells #[.bool false, .slice none 0 0, .slice none 0 0, .slice none 0 0] 27 (0, 0)) := by
        rw [← hw9, Below.heap_setCell _ _ _ _ (by simp only []; omega), Below.heap_setCell _ _ _ _ (by simp only []; omega), Below.heap_setCell _ _ _ _ (by simp only []; omega), Below.heap_setCell _ _ _ _ (by simp only []; omega), heap_setCell_same _ _ _ _ _ _ (heap_setCell_same _ _ _ _ _ _ (heap_setCell_same _ _ _ _ _ _ (heap_setCell_same _ _ _ _ _ _ hx1)))]
        rfl
      have hy9 : w9.heap[w.heap.size + 1]? = some (.cells #[.bool false, .slice none 0 0, .slice none 0 0, .slice none 0 0] 27 (0, 0)) := by
        rw [← hw9, heap_setCell_same _ _ _ _ _ _ (heap_setCell_same _ _ _ _ _ _ (heap_setCell_same _ _ _ _ _ _ (heap_setCell_same _ _ _ _ _ _ ((Below.heap_setCell _ _ _ _ (by simp only []; omega)).trans ((Below.heap_setCell _ _ _ _ (by simp only []; omega)).trans ((Below.heap_setCell _ _ _ _ (by simp only []; omega)).trans ((Below.heap_setCell _ _ _ _ (by simp only []; omega)).trans hy1)))))))]
        rfl
      have hb9 : Below w.heap.size w w9 := by rw [← hw9]; exact ((((((((hq1.setCell (by simp only []; omega) _).setCell (by simp only []; omega) _).setCell (by simp only []; omega) _).setCell (by simp only []; omega) _).setCell (by simp only []; omega) _).setCell (by simp only []; omega) _).setCell (by simp only []; omega) _).setCell (by simp only []; omega) _)
      rw [hw9]
      obtain ⟨e0, e1, e2, e3, _⟩ := box4p hx9
      obtain ⟨f0, f1, f2, f3, _⟩ := box4p hy9
      refine bodyPost_ret (v := .tuple #[.agg #[.bool false, .slice none 0 0, .slice none 0 0, .slice none 0 0], .agg #[.bool false, .slice none 0 0, .slice none 0 0, .slice none 0 0], .int .i64 kf]) (by simp [results, Tryd.results15, go_sem, e0, e1, e2, e3, f0, f1, f2, f3]) rfl ?_
      rw [Hv.out]
      exact ⟨none, 0, none, 0, none, 0, none, 0, none, 0, none, 0, rfl, ⟨SL.nil, SL.nil, SL.nil⟩, ⟨SL.nil, SL.nil, SL.nil⟩, hb9⟩
  · have Hv := Lib.hid (show fpS l n k = ((pf0, pf0), ff) by unfold fpS; rw [if_pos (by rw [hff]; exact hz), hff])
    have hb : (ff != 0) = true := by simpa using hz
    have hb' : (ff == 0) = false := by simpa using hz
    clear hff hz hkf
    go_enter Tryd.func15, Tryd.ntmps15
    go_wp2_with ((go_at_call 42; (with_reducible refine (forestAndName_ok _ A l c N n nc ?h1).mono ?_); (case h1 => (refine Ha.out.below tenR_stays ?_; repeat' (first | exact Below.refl _ _ | assumption | refine Below.drew ?_ | refine below_drewN ?_ _ | refine Below.setCell ?_ (by first | (simp; done) | omega | (simp; omega)) _ | refine Below.alloc ?_ (by first | exact Nat.le_refl _ | omega | (simp; done) | (simp; omega)) _))); rw [Hf.out]; rintro e1 w1 ⟨rfl, hb1⟩; have hq1 : Below w.heap.size w w1 := (Below.next (by repeat' (first | exact Below.refl _ _ | assumption | refine Below.drew ?_ | refine below_drewN ?_ _ | refine Below.setCell ?_ (by first | (simp; done) | omega | (simp; omega)) _ | refine Below.alloc ?_ (by first | exact Nat.le_refl _ | omega | (simp; done) | (simp; omega)) _)) hb1 (by simp; omega)); have hx1 := (hb1.block w.heap.size (by simp; omega)).trans Hz0.out.1; have hy1 := (hb1.block (w.heap.size + 1) (by simp)).trans Hz0.out.2; have hlt0 : w.heap.size < w1.heap.size := (Array.getElem?_eq_some_iff.1 hx1).1; have hlt1 : w.heap.size + 1 < w1.heap.size := (Array.getElem?_eq_some_iff.1 hy1).1; obtain ⟨r0, r1, r2, r3, r4, r5, r6, r7⟩ := box4p hx1; obtain ⟨s0, s1, s2, s3, s4, s5, s6, s7⟩ := box4p hy1))
    obtain ⟨w9, hw9⟩ : ∃ w9, ((((((((w1.setCell ⟨w.heap.size, 0, none⟩ (.bool false)).setCell ⟨w.heap.size, 1, none⟩ (.slice none 0 0)).setCell ⟨w.heap.size, 2, none⟩ (.slice none 0 0)).setCell ⟨w.heap.size, 3, none⟩ (.slice none 0 0)).setCell ⟨w.heap.size + 1, 0, none⟩ (.bool false)).setCell ⟨w.heap.size + 1, 1, none⟩ (.slice none 0 0)).setCell ⟨w.heap.size + 1, 2, none⟩ (.slice none 0 0)).setCell ⟨w.heap.size + 1, 3, none⟩ (.slice none 0 0)) = w9 := ⟨_, rfl⟩
    have hx9 : w9.heap[w.heap.size]? = some (.cells #[.bool false, .slice none 0 0, .slice none 0 0, .slice none 0 0] 27 (0, 0)) := by
      rw [← hw9, Below.heap_setCell _ _ _ _ (by simp only []; omega), Below.heap_setCell _ _ _ _ (by simp only []; omega), Below.heap_setCell _ _ _ _ (by simp only []; omega), Below.heap_setCell _ _ _ _ (by simp only []; omega), heap_setCell_same _ _ _ _ _ _ (heap_setCell_same _ _ _ _ _ _ (heap_setCell_same _ _ _ _ _ _ (heap_setCell_same _ _ _ _ _ _ hx1)))]
      rfl
    have hy9 : w9.heap[w.heap.size + 1]? = some (.cells #[.bool false, .slice none 0 0, .slice none 0 0, .slice none 0 0] 27 (0, 0)) := by
      rw [← hw9, heap_setCell_same _ _ _ _ _ _ (heap_setCell_same _ _ _ _ _ _ (heap_setCell_same _ _ _ _ _ _ (heap_setCell_same _ _ _ _ _ _ ((Below.heap_setCell _ _ _ _ (by simp only []; omega)).trans ((Below.heap_setCell _ _ _ _ (by simp only []; omega)).trans ((Below.heap_setCell _ _ _ _ (by simp only []; omega)).trans ((Below.heap_setCell _ _ _ _ (by simp only []; omega)).trans hy1)))))))]
      rfl
    have hb9 : Below w.heap.size w w9 := by rw [← hw9]; exact ((((((((hq1.setCell (by simp only []; omega) _).setCell (by simp only []; omega) _).setCell (by simp only []; omega) _).setCell (by simp only []; omega) _).setCell (by simp only []; omega) _).setCell (by simp only []; omega) _).setCell (by simp only []; omega) _).setCell (by simp only []; omega) _)
    rw [hw9]
    obtain ⟨e0, e1, e2, e3, _⟩ := box4p hx9
    obtain ⟨f0, f1, f2, f3, _⟩ := box4p hy9
    refine bodyPost_ret (v := .tuple #[.agg #[.bool false, .slice none 0 0, .slice none 0 0, .slice none 0 0], .agg #[.bool false, .slice none 0 0, .slice none 0 0, .slice none 0 0], .int .i64 ff]) (by simp [results, Tryd.results15, go_sem, e0, e1, e2, e3, f0, f1, f2, f3]) rfl ?_
    rw [Hv.out]
    exact ⟨none, 0, none, 0, none, 0, none, 0, none, 0, none, 0, rfl, ⟨SL.nil, SL.nil, SL.nil⟩, ⟨SL.nil, SL.nil, SL.nil⟩, hb9⟩
-- the law
theorem bel2 {w w' : World} (h : Below w.heap.size w w') {o o' : Obj} : Below w.heap.size w ((w'.alloc o).alloc o') := (h.alloc h.size _).alloc (h.alloc h.size _).size _
theorem fpS_len {l : List Tn} {n k : List UInt8} {p q : Pf} {i : Int} (h : fpS l n k = ((p, q), i)) : p.steps.length * 40 ≤ 140737488355328 ∧ q.steps.length * 40 ≤ 140737488355328 := by
  unfold fpS at h
  split at h
  · obtain ⟨⟨rfl, rfl⟩, _⟩ : (pf0 = p ∧ pf0 = q) ∧ _ := by simpa using h
    simp [pf0]
  · split at h
    · obtain ⟨⟨rfl, rfl⟩, _⟩ : (pf0 = p ∧ pf0 = q) ∧ _ := by simpa using h
      simp [pf0]
    · obtain ⟨⟨rfl, rfl⟩, _⟩ : (_ = p ∧ _ = q) ∧ _ := by simpa using h
      exact ⟨prove_len _ _, prove_len _ _⟩
set_option maxRecDepth 100000 in
set_option maxHeartbeats 2000000 in
theorem forestProves_walk (w : World) (hT : TabsAt w) {A : Option Addr} {l : List Tn} {c : Nat} (h : Ts All w A l ∧ l.length * 48 ≤ 140737488355328) {N : Option Addr} {n : List UInt8} {nc : Nat} (h1 : Bs All w N n ∧ n.length ≤ big) {K : Option Addr} {k : List UInt8} {kc : Nat} (h2 : Bs All w K k ∧ k.length ≤ big) :
    Calls Tryd.prog 4 #[.slice A l.length c, .slice N n.length nc, .slice K k.length kc] w (RetV w (.bool true)) := by
  have HT := Lib.hid hT
  have H := Lib.hid h
  have H1 := Lib.hid h1
  have H2 := Lib.hid h2
  have Hl := Lib.hid (show l.length ≤ big by have := h.2; unfold big; omega)
  obtain ⟨p, q, i, hp⟩ : ∃ p q i, fpS l n k = ((p, q), i) := ⟨_, _, _, rfl⟩
  have Hp := Lib.hid hp
  have Hst := Lib.hid (fpS_len hp)
  clear h h1 h2 hT hp
  go_enter Tryd.func4, Tryd.ntmps4
  go_wp2_with (first
    | (go_at_call 13; go_in)
    | (go_at_call 37; refine (forestCopy_ok _ A l c H.out.1 H.out.2).mono ?_; rintro e w1 ⟨A1, c1, rfl, _, hs1, hb1⟩)
    | (go_at_call 9; (with_reducible refine (octets_ok _ N n nc ?hx H1.out.2).mono ?_); (case hx => exact H1.out.1.bbelow hb1); rintro e w2 ⟨N2, n2, rfl, hs2, hb2⟩; have hq2 := hb1.next hb2 hb1.size)
    | (go_at_call 9; (with_reducible refine (octets_ok _ K k kc ?hx H2.out.2).mono ?_); (case hx => exact H2.out.1.bbelow hq2); rintro e w3 ⟨K2, k2, rfl, hs3, hb3⟩; have hq3 := hq2.next hb3 hq2.size)
    | (go_at_call 14; refine (forestProve_ok _ (HT.out.below hq3) A1 l c1 N2 n n2 K2 k k2 (((hs1.z tenR_stays).below tenR_stays hb2).below tenR_stays hb3) (hs2.bbelow hb3).bz hs3.bz).mono ?_; rw [Hp.out]; rintro e w4 ⟨B, m, Q, qc, V, v, B1, m1, Q1, qc1, V1, v1, rfl, ⟨ha1, ha2, ha3⟩, ⟨ha4, ha5, ha6⟩, hb4⟩; have hq4 := hq3.next hb4 hq3.size)
    | (go_at_call 15; (with_reducible refine (forestProof_ok _ A l c N n nc K k kc ?g0 ?g1 ?g2).mono ?_); (case g0 => exact H.out.1.below tenR_stays (bel2 hq4)); (case g1 => exact H1.out.1.bbelow (bel2 hq4)); (case g2 => exact H2.out.1.bbelow (bel2 hq4)); rw [Hp.out]; rintro e w5 ⟨B', m', Q', qc', V', v', B1', m1', Q1', qc1', V1', v1', rfl, ⟨hc1, hc2, hc3⟩, ⟨hc4, hc5, hc6⟩, hb5⟩; have hq5 := (bel2 hq4).next hb5 (bel2 hq4).size; have hxa := (hb5.block w4.heap.size (by simp; omega)).trans ((heap_alloc_old _ _ (by simp)).trans (box_new w4 _ _)); have hxb := (hb5.block (w4.heap.size + 1) (by simp)).trans (box_at _ _ (by simp)); obtain ⟨x0, x1, x2, x3, _⟩ := box4p hxa; obtain ⟨y0, y1, y2, y3, _⟩ := box4p hxb; have hza : w4.heap.size + 1 < w5.heap.size := (Array.getElem?_eq_some_iff.1 hxb).1; have hza0 : w4.heap.size < w5.heap.size := (by omega); have hza1 : w4.heap.size + 1 < w5.heap.size + 1 := (by omega); have hza2 : w4.heap.size < w5.heap.size + 1 := (by omega); have hsm : ∀ S, Same S w4 w5 := (fun S => (((Same.refl _ _).alloc _).alloc _).trans (Same.of_below hb5)))
    | (go_at_call 16; (with_reducible refine (sameProof_ok _ B Q V B' Q' V' p m qc v m' qc' v' ?i1 ?i2 ?i3 ?i4 ?i5 ?i6 Hst.out.1).mono ?_); (case i1 => exact (ha1.same stR_stays (((hsm _).alloc _).alloc _)).z stR_stays); (case i2 => exact (ha2.bsame (((hsm _).alloc _).alloc _)).bz); (case i3 => exact (ha3.bsame (((hsm _).alloc _).alloc _)).bz); (case i4 => exact (hc1.same stR_stays (((Same.refl _ _).alloc _).alloc _)).z stR_stays); (case i5 => exact (hc2.bsame (((Same.refl _ _).alloc _).alloc _)).bz); (case i6 => exact (hc3.bsame (((Same.refl _ _).alloc _).alloc _)).bz); rintro e w6 ⟨rfl, hb6⟩; have hq6 := (bel2 hq5).next hb6 (bel2 hq5).size; obtain ⟨z0, z1, z2, z3, _⟩ := box4p ((hb6.block w5.heap.size (by simp; omega)).trans ((heap_alloc_old _ _ (by simp)).trans (box_new w5 _ _))); obtain ⟨t0, t1, t2, t3, _⟩ := box4p ((hb6.block (w5.heap.size + 1) (by simp)).trans (box_at _ _ (by simp))); obtain ⟨u0, u1, u2, u3, _⟩ := box4p ((hb6.block (w4.heap.size + 1) (by simp; omega)).trans ((heap_alloc_old _ _ (by simp; omega)).trans ((heap_alloc_old _ _ hza).trans hxb))); have hzb : w5.heap.size + 1 < w6.heap.size := (Nat.lt_of_lt_of_le (by simp) hb6.size))
    | (go_at_call 16; (with_reducible refine (sameProof_ok _ B1 Q1 V1 B1' Q1' V1' q m1 qc1 v1 m1' qc1' v1' ?i1 ?i2 ?i3 ?i4 ?i5 ?i6 Hst.out.2).mono ?_); (case i1 => exact ((ha4.same stR_stays (((hsm _).alloc _).alloc _)).z stR_stays).below stR_stays hb6); (case i2 => exact (ha5.bsame (((hsm _).alloc _).alloc _)).bz.bbelow hb6); (case i3 => exact (ha6.bsame (((hsm _).alloc _).alloc _)).bz.bbelow hb6); (case i4 => exact ((hc4.same stR_stays (((Same.refl _ _).alloc _).alloc _)).z stR_stays).below stR_stays hb6); (case i5 => exact (hc5.bsame (((Same.refl _ _).alloc _).alloc _)).bz.bbelow hb6); (case i6 => exact (hc6.bsame (((Same.refl _ _).alloc _).alloc _)).bz.bbelow hb6); rintro e w7 ⟨rfl, hb7⟩; have hq7 := hq6.next hb7 hq6.size)
    | (go_at_call 17; (with_reducible refine (sameTenants_ok _ A1 A l c1 c ?hx ?hy Hl.out).mono ?_); (case hx => exact (((((hs1.z tenR_stays).below tenR_stays hb2).below tenR_stays hb3).below tenR_stays hb4).same tenR_stays (((hsm _).alloc _).alloc _)).below tenR_stays (hb6.next hb7 hb6.size)); (case hy => exact H.out.1.below tenR_stays hq7); rintro e8 w8 ⟨rfl, hb8⟩; have hq8 := hq7.next hb8 hq7.size))
  all_goals
    go_ret
    exact ⟨by simp, by first | exact hq8 | exact hq7 | exact hq6 | exact bel2 hq5⟩
end Go.Proofs.YteacjkihjeiafaaDoor
