/- The laws WireChecks: their walks. -/
import Derived.Test.YtddppmhpdgecgaaDoorWireCheck
import Derived.Test.YtddppmhpdgecgaaDoorWireFault
import Derived.Test.YtddppmhpdgecgaaDoorRqCopy
namespace Go.Proofs.YtddppmhpdgecgaaDoor
open Go.RowKit
set_option linter.unusedVariables false
set_option linter.unusedSimpArgs false

set_option maxRecDepth 100000 in
set_option maxHeartbeats 4000000 in
theorem wireChecks_walk (w : World) (hT : HasAt w) {cl : List Value} {r : Rq} (h : RqR All w cl r) :
    Calls Tryd.prog 3 #[.agg cl.toArray] w (RetV w (.bool true)) := by
  obtain ⟨A, a, B, b, C, c, D, d, rfl, hA, hB, hC, hD, h1, h2, h3, h4⟩ := h
  have HA := Lib.hid hA
  have HB := Lib.hid hB
  have HC := Lib.hid hC
  have HD := Lib.hid hD
  have HT := Lib.hid hT
  clear hA hB hC hD hT
  have Hbox := Lib.hid (show ∀ W, Below (w.heap.size + 1) (w.alloc (.cells #[.int .i64 r.kind, .slice A r.name.length a, .slice B r.key.length b, .slice C r.last.length c, .slice D r.value.length d] 24)) W → (W.cell? ⟨w.heap.size, 0, none⟩ = some (.int .i64 r.kind) ∧ W.cell? ⟨w.heap.size, 1, none⟩ = some (.slice A r.name.length a) ∧ W.cell? ⟨w.heap.size, 2, none⟩ = some (.slice B r.key.length b) ∧ W.cell? ⟨w.heap.size, 3, none⟩ = some (.slice C r.last.length c) ∧ W.cell? ⟨w.heap.size, 4, none⟩ = some (.slice D r.value.length d)) ∧ Below w.heap.size w W ∧ w.heap.size + 1 ≤ W.heap.size from fun W hW => by
    obtain ⟨q, _⟩ := box5 ((hW.block w.heap.size (by omega)).trans (box_new w _ _))
    exact ⟨q, ((Below.refl w.heap.size w).alloc (Nat.le_refl _) _).trans (hW.mono (by omega)), by simpa using hW.size⟩)
  go_enter Tryd.func3, Tryd.ntmps3
  go_wp2_with (first
    | (go_at_call 22; (with_reducible refine (requests_ok _ A B C D r a b c d ?h1 ?h2 ?h3 ?h4 h1 h2 h3 h4).mono ?_); (case h1 => (refine HA.out.bbelow ?_; repeat' (first | exact Below.refl _ _ | assumption | refine Below.drew ?_ | refine below_drewN ?_ _ | refine Below.alloc ?_ (by first | exact Nat.le_refl _ | omega | (simp; done) | (simp; omega)) _))); (case h2 => (refine HB.out.bbelow ?_; repeat' (first | exact Below.refl _ _ | assumption | refine Below.drew ?_ | refine below_drewN ?_ _ | refine Below.alloc ?_ (by first | exact Nat.le_refl _ | omega | (simp; done) | (simp; omega)) _))); (case h3 => (refine HC.out.bbelow ?_; repeat' (first | exact Below.refl _ _ | assumption | refine Below.drew ?_ | refine below_drewN ?_ _ | refine Below.alloc ?_ (by first | exact Nat.le_refl _ | omega | (simp; done) | (simp; omega)) _))); (case h4 => (refine HD.out.bbelow ?_; repeat' (first | exact Below.refl _ _ | assumption | refine Below.drew ?_ | refine below_drewN ?_ _ | refine Below.alloc ?_ (by first | exact Nat.le_refl _ | omega | (simp; done) | (simp; omega)) _))); rintro e1 w1 ⟨A1, a1, B1, b1, C1, c1, D1, d1, rfl, _, _, _, _, hb1'⟩; have hb1 := hb1'.mono (show w.heap.size + 1 ≤ _ by simp); obtain ⟨⟨qa, qb, qc, qd, qe⟩, hw1, hz1⟩ := Hbox.out w1 hb1; clear hb1')
    | (go_at_call 21; refine (wireCheck_ok _ (HT.out.below hw1) A1 B1 C1 D1 r a1 b1 c1 d1).mono ?_; rintro e2 w2 ⟨rfl, hb2'⟩; have hb2 := hb1.next hb2' hz1; obtain ⟨⟨ra, rb, rc, rd, re⟩, hw2, hz2⟩ := Hbox.out w2 hb2)
    | (go_at_call 23; refine (rqFault_ok _ A B C D r a b c d h1 h2).mono ?_; rintro e3 w3 ⟨rfl, hb3⟩))
  go_ret
  exact ⟨by simp, hw2.next hb3 hw2.size⟩
end Go.Proofs.YtddppmhpdgecgaaDoor
