/- PairOf: Walk: pairOf of the laws. The conditions of each are in its words. -/
import Derived.Test.YteacjkihjeiafaaDoorKBase
namespace Go.Proofs.YteacjkihjeiafaaDoor
open Go.RowKit
set_option linter.unusedVariables false
set_option linter.unusedSimpArgs false

set_option maxHeartbeats 400000 in
theorem pairOf_ok (w : World) (A B : Option Addr) (p : Pr) (c d : Nat) (ha : Bs All w A p.1) (hb : Bs All w B p.2) (h1 : p.1.length ≤ big) (h2 : p.2.length ≤ big) :
    Calls Tryd.prog 33 #[.agg #[.slice A p.1.length c, .slice B p.2.length d]] w (RetPair w p) := by
  have Ha := Lib.hid ha
  have Hb := Lib.hid hb
  clear ha hb
  go_enter Tryd.func33, Tryd.ntmps33
  go_wp2_with fail
  go_region_held3 (fun w' => w'.cell? ⟨w.heap.size, 0, none⟩ = some (.slice A p.1.length c) ∧ w'.cell? ⟨w.heap.size, 1, none⟩ = some (.slice B p.2.length d))
    (first
      | go_keep
      | (go_split_ands; refine ⟨(hb1.cell (by first | (simp; done) | omega | (simp; omega))).trans (by assumption), (hb1.cell (by first | (simp; done) | omega | (simp; omega))).trans (by assumption)⟩)
      | (go_split_ands; refine ⟨(hb2.cell (by have hq1 := hb1.size; simp at hq1 ⊢; omega)).trans (by assumption), (hb2.cell (by have hq1 := hb1.size; simp at hq1 ⊢; omega)).trans (by assumption)⟩))
    (first
      | (go_at_call 9; (with_reducible refine (octets_ok _ A p.1 c ?ha h1).mono ?_); (case ha => (refine Ha.out.bbelow ?_; repeat' (first | exact Below.refl _ _ | assumption | refine Below.drew ?_ | refine below_drewN ?_ _ | refine Below.alloc ?_ (by first | exact Nat.le_refl _ | omega | (simp; done) | (simp; omega)) _))); rintro e w1 ⟨A1, c1, rfl, hs1, hb1⟩)
      | (go_at_call 9; (with_reducible refine (octets_ok _ B p.2 d ?ha h2).mono ?_); (case ha => (refine Hb.out.bbelow (Below.next ?_ hb1 (by first | (simp; done) | omega | (simp; omega))); repeat' (first | exact Below.refl _ _ | assumption | refine Below.drew ?_ | refine below_drewN ?_ _ | refine Below.alloc ?_ (by first | exact Nat.le_refl _ | omega | (simp; done) | (simp; omega)) _))); rintro e w2 ⟨A2, c2, rfl, hs2, hb2⟩; have g0 : w2.cell? ⟨w.heap.size + 1, 0, none⟩ = some (.slice none 0 0) := (hb2.cell (by have hq1 := hb1.size; simp at hq1 ⊢; omega)).trans ((hb1.cell (by first | (simp; done) | omega | (simp; omega))).trans (by simp)); have g1 : w2.cell? ⟨w.heap.size + 1, 1, none⟩ = some (.slice none 0 0) := (hb2.cell (by have hq1 := hb1.size; simp at hq1 ⊢; omega)).trans ((hb1.cell (by first | (simp; done) | omega | (simp; omega))).trans (by simp)); have f0 : w2.frozen? ⟨w.heap.size + 1, 0, none⟩ = false := (hb2.frozen (by have hq1 := hb1.size; simp at hq1 ⊢; omega)).trans ((hb1.frozen (by first | (simp; done) | omega | (simp; omega))).trans (by simp)); have f1 : w2.frozen? ⟨w.heap.size + 1, 1, none⟩ = false := (hb2.frozen (by have hq1 := hb1.size; simp at hq1 ⊢; omega)).trans ((hb1.frozen (by first | (simp; done) | omega | (simp; omega))).trans (by simp))))
  all_goals
    go_wp2
    refine bodyPost_ret (v := .agg #[.slice A1 p.1.length c1, .slice A2 p.2.length c2]) (by simp [results, Tryd.results33, go_sem, g0, g1]) rfl ⟨A1, c1, A2, c2, rfl, ?_, ?_, ?_⟩
    · exact ((hs1.bbelow hb2).bsame (((Same.refl _ _).setCell (fun hq => by simp only [From] at hq; first | omega | (simp at hq; done) | (simp at hq; omega)) _).setCell (fun hq => by simp only [From] at hq; first | omega | (simp at hq; done) | (simp at hq; omega)) _)).blo (by first | (simp; done) | omega | (simp; omega))
    · exact (hs2.bsame (((Same.refl _ _).setCell (fun hq => by have hq1 := hb1.size; simp [From] at hq hq1; omega) _).setCell (fun hq => by have hq1 := hb1.size; simp [From] at hq hq1; omega) _)).blo (by have hq1 := hb1.size; simp at hq1 ⊢; omega)
    · refine Below.setCell (Below.setCell (Below.next (Below.next ?_ hb1 (by first | (simp; done) | omega | (simp; omega))) hb2 (by have hq1 := hb1.size; simp at hq1 ⊢; omega)) (by first | (simp; done) | omega | (simp; omega)) _) (by first | (simp; done) | omega | (simp; omega)) _
      repeat' (first | exact Below.refl _ _ | assumption | refine Below.drew ?_ | refine below_drewN ?_ _ | refine Below.alloc ?_ (by first | exact Nat.le_refl _ | omega | (simp; done) | (simp; omega)) _)
end Go.Proofs.YteacjkihjeiafaaDoor
