/- The walk of LinesChecks. -/
import Derived.Test.YtdhbnhjgbcipkaaActs
import Derived.Test.YtdhbnhjgbcipkaaOpenAct
namespace Go.Proofs.Ytdhbnhjgbcipkaa
open Go.RowKit
set_option maxHeartbeats 400000 in
theorem linesChecks_walk (w : World) {cl : List Value} {a : Act1} (h : ActR All w cl a) :
    Calls Try.prog 7 #[.agg cl.toArray] w (RetV w (.bool true)) := by
  obtain ⟨A, c, rfl, h1, _⟩ := h
  clear h1
  go_enter Try.func7, Try.ntmps7
  go_wp2_with (first
    | (go_at_call 20; refine (linesCheck_ok _ a.kind a.session a.keep A a.data.length c).mono ?_; rintro e w1 ⟨rfl, hb1⟩; have g0 : w1.cell? ⟨w.heap.size, 0, none⟩ = some (.int .i64 a.kind) := (hb1.cell (by first | (simp; done) | omega | (simp; omega))).trans (by simp); have g1 : w1.cell? ⟨w.heap.size, 1, none⟩ = some (.int .i64 a.session) := (hb1.cell (by first | (simp; done) | omega | (simp; omega))).trans (by simp); have g2 : w1.cell? ⟨w.heap.size, 2, none⟩ = some (.int .i64 a.keep) := (hb1.cell (by first | (simp; done) | omega | (simp; omega))).trans (by simp); have g3 : w1.cell? ⟨w.heap.size, 3, none⟩ = some (.slice A a.data.length c) := (hb1.cell (by first | (simp; done) | omega | (simp; omega))).trans (by simp))
    | (go_at_call 21; refine (actFault_ok _ a.kind a.session a.keep A a.data.length c).mono ?_; rintro e w2 ⟨rfl, hb2⟩))
  go_ret
  refine ⟨by simp, Below.next (Below.next ?_ hb1 (by first | (simp; done) | omega | (simp; omega))) hb2 (by have := hb1.size; simp at this; omega)⟩
  repeat' (first | exact Below.refl _ _ | assumption | refine Below.drew ?_ | refine below_drewN ?_ _ | refine Below.alloc ?_ (by first | exact Nat.le_refl _ | omega | (simp; done) | (simp; omega)) _)
end Go.Proofs.Ytdhbnhjgbcipkaa
