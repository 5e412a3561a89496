/- Walk of the law TxnChecks. -/
import Derived.Test.YthhcdibimnifaaaTxnCheck
namespace Go.Proofs.Ythhcdibimnifaaa
open Go.RowKit
set_option linter.unusedVariables false
set_option linter.unusedSimpArgs false

set_option maxRecDepth 100000 in
set_option maxHeartbeats 1000000 in
theorem txnChecks_walk (w : World) {cl : List Value} {t : Tx} (h : TxR All w cl t) :
    Calls Try.prog 16 #[.agg cl.toArray] w (RetV w (.bool true)) := by
  obtain ⟨A, n, B, m, rfl, ha, hb, h1, h2, h3, h4⟩ := h
  have Ha := Lib.hid ha
  have Hb := Lib.hid hb
  clear ha hb h3 h4
  have hrl : t.reads.length ≤ big := by unfold big; omega
  have hwl : t.writes.length ≤ big := by unfold big; omega
  have Hbox := Lib.hid (show ∀ W, Below (w.heap.size + 1) (w.alloc (.cells #[.int .i64 t.start, .slice A t.reads.length n, .slice B t.writes.length m] 79)) W → W.cell? ⟨w.heap.size, 0, none⟩ = some (.int .i64 t.start) ∧ W.cell? ⟨w.heap.size, 1, none⟩ = some (.slice A t.reads.length n) ∧ W.cell? ⟨w.heap.size, 2, none⟩ = some (.slice B t.writes.length m) ∧ Below w.heap.size w W ∧ w.heap.size + 1 ≤ W.heap.size from fun W hW => by
    obtain ⟨g0, g1, g2, _⟩ := box3 ((hW.block _ (by omega)).trans (box_new w _ _))
    exact ⟨g0, g1, g2, ((Below.refl w.heap.size w).alloc (Nat.le_refl _) _).trans (hW.mono (by omega)), by simpa using hW.size⟩)
  go_enter Try.func16, Try.ntmps16
  go_wp2_with (first
    | (go_at_call 63; refine (txnCopy_ok _ A B t n m (Ha.out.below wrR_stays ?_) (Hb.out.below wrR_stays ?_) h1 h2).mono ?_; (repeat' (first | exact Below.refl _ _ | assumption | refine Below.drew ?_ | refine below_drewN ?_ _ | refine Below.alloc ?_ (by first | exact Nat.le_refl _ | omega | (simp; done) | (simp; omega)) _)); (repeat' (first | exact Below.refl _ _ | assumption | refine Below.drew ?_ | refine below_drewN ?_ _ | refine Below.alloc ?_ (by first | exact Nat.le_refl _ | omega | (simp; done) | (simp; omega)) _)); rintro e w1 ⟨A1, n1, B1, m1, rfl, hk1, hk2, hs1, hs2, hb1'⟩; have hb1 : Below (w.heap.size + 1) (w.alloc (.cells #[.int .i64 t.start, .slice A t.reads.length n, .slice B t.writes.length m] 79)) w1 := hb1'.mono (by first | (simp; done) | omega | (simp; omega)); obtain ⟨g0, g1, g2, hw1, hz1⟩ := Hbox.out w1 hb1; have Hs1 := Lib.hid (hs1.z wrR_stays); have Hs2 := Lib.hid (hs2.z wrR_stays); clear hs1 hs2 hb1')
    | (go_at_call 64; refine (txnCheck_ok _ A1 B1 t n1 m1 (Hs1.out.below wrR_stays ((Below.refl _ _).alloc (Nat.le_refl _) _)) (Hs2.out.below wrR_stays ((Below.refl _ _).alloc (Nat.le_refl _) _)) hk1 hk2).mono ?_; rintro e w2 ⟨rfl, hb2⟩; have hd2 := (hb2.block w1.heap.size (by simp)).trans (box_new w1 _ _); have hb12 : Below w1.heap.size w1 w2 := ((Below.refl _ _).alloc (Nat.le_refl _) _).next hb2 (by simp); obtain ⟨g3, g4, g5, hw2, hz2⟩ := Hbox.out w2 (hb1.next hb12 hz1); have hy2 : w1.heap.size < w2.heap.size := (by have := hb2.size; simp at this; omega); have Hd2 := Lib.hid hd2; clear hd2 hb2)
    | (go_at_call 65; refine (txnFault_ok _ A B t n m (Ha.out.below wrR_stays hw2) (Hb.out.below wrR_stays hw2)).mono ?_; rintro e w3 ⟨rfl, hb3⟩; obtain ⟨g6, g7, g8, hw3, hz3⟩ := Hbox.out w3 ((hb1.next hb12 hz1).next hb3 hz2); obtain ⟨d0, d1, d2, _⟩ := box3 ((hb3.block _ hy2).trans Hd2.out))
    | (go_at_call 66; refine (sameTxn_ok _ A1 B1 A B t n1 m1 n m ((Hs1.out.below wrR_stays hb12).below wrR_stays hb3) ((Hs2.out.below wrR_stays hb12).below wrR_stays hb3) (Ha.out.below wrR_stays hw3) (Hb.out.below wrR_stays hw3) hrl hwl).mono ?_; rintro e w5 ⟨rfl, hb5⟩; have hw5 := hw3.next hb5 (by omega)))
  go_ret
  exact ⟨by simp, hw5⟩
end Go.Proofs.Ythhcdibimnifaaa
