/- The law WireEncodes: its walk. -/
import Derived.Test.YtddppmhpdgecgaaDoorWireEncR
namespace Go.Proofs.YtddppmhpdgecgaaDoor
open Go.RowKit
set_option linter.unusedVariables false
set_option linter.unusedSimpArgs false

set_option maxRecDepth 100000 in
set_option maxHeartbeats 2000000 in
theorem rqBytes_ok (w : World) (A B C D : Option Addr) (r : Rq) (a b c d : Nat) (hA : Bs All w A r.name) (hB : Bs All w B r.key) (hC : Bs All w C r.last) (hD : Bs All w D r.value) (hbn : r.name.length ≤ big) (hbe : r.key.length ≤ big) :
    Calls Tryd.prog 25 #[.agg #[.int .i64 r.kind, .slice A r.name.length a, .slice B r.key.length b, .slice C r.last.length c, .slice D r.value.length d]] w (RetBI w (encR r)) := by
  by_cases hf : rqFault r = 0
  · have he : encR r = (encUp (hasS r.kind.toNat) r 4, 0) := by unfold encR; rw [if_neg (by simpa using hf)]
    obtain ⟨k, hk, h1, h8, hb⟩ := rq_kind hf
    rw [he]
    obtain ⟨i, n, e, l, v⟩ := r
    dsimp only at *
    subst hk
    rw [Int.toNat_natCast]
    rcases kinds_of (k := k) h1 h8 with ⟨h, h3, h4⟩ | ⟨h, h3, h4⟩ | ⟨h, rfl⟩ | ⟨h, rfl⟩
    · rw [h] at hb ⊢; exact rqBytes_0 w A B C D n e l v a b c d k h1 h8 h h3 h4 hA hB hC hD hbn hbe hf hb
    · rw [h] at hb ⊢; exact rqBytes_3 w A B C D n e l v a b c d k h1 h8 h h3 h4 hA hB hC hD hbn hbe hf hb
    · rw [h] at hb ⊢; exact rqBytes_7 w A B C D n e l v a b c d hA hB hC hD hbn hbe hf hb
    · rw [h] at hb ⊢; exact rqBytes_11 w A B C D n e l v a b c d hA hB hC hD hbn hbe hf hb
  · have Hv := Lib.hid (show encR r = ([], rqFault r) by unfold encR; rw [if_pos hf])
    have hf' : (rqFault r != 0) = true := by simpa using hf
    clear hf hA hB hC hD
    go_enter Tryd.func25, Tryd.ntmps25
    go_wp2_with (go_at_call 23; refine (rqFault_ok _ A B C D r a b c d hbn hbe).mono ?_; rintro e1 w1 ⟨rfl, hb1⟩)
    go_ret2
    rw [Hv.out]
    exact ⟨none, 0, rfl, SL.nil, (by refine Below.next ?_ hb1 (by first | (simp; done) | omega | (simp; omega)); repeat' (first | exact Below.refl _ _ | assumption | refine Below.drew ?_ | refine below_drewN ?_ _ | refine Below.alloc ?_ (by first | exact Nat.le_refl _ | omega | (simp; done) | (simp; omega)) _))⟩
set_option maxRecDepth 100000 in
set_option maxHeartbeats 4000000 in
theorem wireEncodes_walk (w : World) (hT : HasAt w) {cl : List Value} {r : Rq} (h : RqR All w cl r) :
    Calls Tryd.prog 4 #[.agg cl.toArray] w (RetV w (.bool true)) := by
  obtain ⟨A, a, B, b, C, c, D, d, rfl, hA, hB, hC, hD, h1, h2, h3, h4⟩ := h
  have HA := Lib.hid hA
  have HB := Lib.hid hB
  have HC := Lib.hid hC
  have HD := Lib.hid hD
  have HT := Lib.hid hT
  clear hA hB hC hD hT
  have Hbox := Lib.hid (show ∀ W, Below (w.heap.size + 1) (w.alloc (.cells #[.int .i64 r.kind, .slice A r.name.length a, .slice B r.key.length b, .slice C r.last.length c, .slice D r.value.length d] 24)) W → (W.cell? ⟨w.heap.size, 0, none⟩ = some (.int .i64 r.kind) ∧ W.cell? ⟨w.heap.size, 1, none⟩ = some (.slice A r.name.length a) ∧ W.cell? ⟨w.heap.size, 2, none⟩ = some (.slice B r.key.length b) ∧ W.cell? ⟨w.heap.size, 3, none⟩ = some (.slice C r.last.length c) ∧ W.cell? ⟨w.heap.size, 4, none⟩ = some (.slice D r.value.length d)) ∧ Below w.heap.size w W ∧ w.heap.size < W.heap.size from fun W hW => by
    obtain ⟨q, _⟩ := box5 ((hW.block w.heap.size (by omega)).trans (box_new w _ _))
    exact ⟨q, ((Below.refl w.heap.size w).alloc (Nat.le_refl _) _).trans (hW.mono (by omega)), by have h := hW.size; simp at h; omega⟩)
  go_enter Tryd.func4, Tryd.ntmps4
  go_wp2_with (first
    | (go_at_call 22; (with_reducible refine (requests_ok _ A B C D r a b c d ?h1 ?h2 ?h3 ?h4 h1 h2 h3 h4).mono ?_); (case h1 => (refine HA.out.bbelow ?_; repeat' (first | exact Below.refl _ _ | assumption | refine Below.drew ?_ | refine below_drewN ?_ _ | refine Below.alloc ?_ (by first | exact Nat.le_refl _ | omega | (simp; done) | (simp; omega)) _))); (case h2 => (refine HB.out.bbelow ?_; repeat' (first | exact Below.refl _ _ | assumption | refine Below.drew ?_ | refine below_drewN ?_ _ | refine Below.alloc ?_ (by first | exact Nat.le_refl _ | omega | (simp; done) | (simp; omega)) _))); (case h3 => (refine HC.out.bbelow ?_; repeat' (first | exact Below.refl _ _ | assumption | refine Below.drew ?_ | refine below_drewN ?_ _ | refine Below.alloc ?_ (by first | exact Nat.le_refl _ | omega | (simp; done) | (simp; omega)) _))); (case h4 => (refine HD.out.bbelow ?_; repeat' (first | exact Below.refl _ _ | assumption | refine Below.drew ?_ | refine below_drewN ?_ _ | refine Below.alloc ?_ (by first | exact Nat.le_refl _ | omega | (simp; done) | (simp; omega)) _))); rintro e1 w1 ⟨A1, a1, B1, b1, C1, c1, D1, d1, rfl, hs1, hs2, hs3, hs4, hb1'⟩; have hb1 := hb1'.mono (show w.heap.size + 1 ≤ _ by simp); obtain ⟨⟨qa, qb, qc, qd, qe⟩, hw1, hz1⟩ := Hbox.out w1 hb1; clear hb1')
    | (go_at_call 24; refine (wireEncode_ok _ (HT.out.below hw1) A1 B1 C1 D1 r a1 b1 c1 d1 hs1.bz hs2.bz hs3.bz hs4.bz).mono ?_; rintro e2 w2 ⟨E2, f2, rfl, hs5, hb2'⟩; have hb2 := hb1.next hb2' hz1; obtain ⟨⟨ra, rb, rc, rd, re⟩, hw2, hz2⟩ := Hbox.out w2 hb2)
    | (go_at_call 25; refine (rqBytes_ok _ A B C D r a b c d (HA.out.bbelow hw2) (HB.out.bbelow hw2) (HC.out.bbelow hw2) (HD.out.bbelow hw2) h1 h2).mono ?_; rintro e3 w3 ⟨E3, f3, rfl, hs6, hb3⟩; have hw3 := hw2.next hb3 hw2.size)
    | (go_at_call 26; refine (sameBytes_ok _ E2 E3 (encR r).1 (encR r).1 f2 f3 (hs5.bz.bbelow hb3) hs6.bz).mono ?_; rintro e4 w4 ⟨rfl, rfl⟩))
  go_ret
  exact ⟨by simp, hw3⟩
end Go.Proofs.YtddppmhpdgecgaaDoor
