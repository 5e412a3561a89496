/- The walk of TapeSyncs. -/
import Derived.Test.YtdhbnhjgbcipkaaTape
import Derived.OpenShut
namespace Go.Proofs.Ytdhbnhjgbcipkaa
open Go.RowKit

set_option maxRecDepth 100000 in
set_option maxHeartbeats 1000000 in
theorem tapeSyncs_walk (w : World) {cl : List Value} {t : Tp} (h : TapeR All w cl t) :
    Calls Try.prog 8 #[.agg cl.toArray] w (RetV w (.bool true)) := by
  obtain ⟨A, c, rfl, hcap, ha, h1⟩ := h
  have Ha := Lib.hid ha
  have Hc := Lib.hid hcap
  clear ha hcap
  obtain ⟨r, hr⟩ : ∃ r, r = (if mayS t then (t.1, (t.1.length : Int)) else ([], 0)) := ⟨_, rfl⟩
  obtain ⟨v, hv⟩ : ∃ v : Int, v = (if mayS t then 0 else 6) := ⟨_, rfl⟩
  have Hp := Lib.hid (show ∀ (W : World) (A : Option Addr) (c : Nat), Bs All W A t.1 → t.1.length ≤ c → Calls Try.prog 23 #[.agg #[.slice A t.1.length c, .int .i64 t.2]] W (RetTapeV W r (.int .i64 v)) from fun W A c h hc => by rw [hr, hv]; exact tapeSync_ok W A t c h)
  have Hq := Lib.hid (show ∀ (W : World) (A : Option Addr) (c : Nat), Bs All W A t.1 → t.1.length ≤ c → Calls Try.prog 24 #[.agg #[.slice A t.1.length c, .int .i64 t.2]] W (RetTapeV W r (.int .i64 v)) from fun W A c h hc => by rw [hr, hv]; exact tapeSynced_ok W A t c h)
  clear hr hv
  go_enter Try.func8, Try.ntmps8
  go_wp2_with fail
  refine (tapes_ok _ A t c (Ha.out.bbelow ?hx) h1).mono ?_
  case hx => repeat' (first | exact Below.refl _ _ | assumption | refine Below.drew ?_ | refine below_drewN ?_ _ | refine Below.alloc ?_ (by first | exact Nat.le_refl _ | omega | (simp; done) | (simp; omega)) _)
  rintro e w1 ⟨A1, c1, rfl, hcap1, hs1, hb1⟩
  have hbw1 : Below w.heap.size w w1 := Below.next ((Below.refl _ _).alloc (Nat.le_refl _) _) hb1 (by first | (simp; done) | omega | (simp; omega))
  have x1 := (hb1.block w.heap.size (by first | (simp; done) | omega | (simp; omega))).trans (box_new w _ _)
  have z1 : w.heap.size < w1.heap.size := by have := hb1.size; simp at this; omega
  clear hb1
  go_wp2_with fail
  refine (Hp.out _ A1 c1 (hs1.bz.bbelow ((Below.refl _ _).alloc (Nat.le_refl _) _)) hcap1).mono ?_
  rintro e w2 ⟨A2, c2, rfl, hcap2, hs2, hb2⟩
  have hbw2 : Below w1.heap.size w1 w2 := Below.next ((Below.refl _ _).alloc (Nat.le_refl _) _) hb2 (by first | (simp; done) | omega | (simp; omega))
  have y2 := (hb2.block w1.heap.size (by first | (simp; done) | omega | (simp; omega))).trans (box_new w1 _ _)
  have x2 := (hbw2.block w.heap.size z1).trans x1
  have z2 : w1.heap.size < w2.heap.size := by have := hb2.size; simp at this; omega
  have z2' : w.heap.size < w2.heap.size := by omega
  clear hb2 x1
  obtain ⟨g0, g1, _, _⟩ := box2 x2
  have X2 := Lib.hid x2
  have Y2 := Lib.hid y2
  clear x2 y2
  go_wp2_with fail
  clear g0 g1
  refine (Hq.out _ A c (Ha.out.bbelow ?hx) Hc.out).mono ?_
  case hx => exact (hbw1.next hbw2 (by omega)).alloc (by omega) _
  rintro e w3 ⟨A3, c3, rfl, hcap3, hs3, hb3⟩
  have hbw3 : Below w2.heap.size w2 w3 := Below.next ((Below.refl _ _).alloc (Nat.le_refl _) _) hb3 (by first | (simp; done) | omega | (simp; omega))
  have Z3 := Lib.hid ((hb3.block w2.heap.size (by first | (simp; done) | omega | (simp; omega))).trans (box_new w2 _ _))
  have X3 := Lib.hid ((hbw3.block w.heap.size z2').trans X2.out)
  have Y3 := Lib.hid ((hbw3.block w1.heap.size z2).trans Y2.out)
  have z3 : w2.heap.size < w3.heap.size := by have := hb3.size; simp at this; omega
  clear hb3
  obtain ⟨g0, g1, _, _⟩ := box2 Z3.out
  go_wp2_with fail
  clear g0 g1
  have hW3 : Below w3.heap.size w3 (w3.alloc (.cells #[.slice A3 r.1.length c3, .int .i64 r.2] 36)) := (Below.refl _ _).alloc (Nat.le_refl _) _
  refine (sameTape_ok _ A2 A3 r c2 c3 (hs2.bz.bbelow (hbw3.next hW3 hbw3.size)) (hs3.bz.bbelow hW3)).mono ?_
  rintro e w4 ⟨rfl, hb4⟩
  have hbw4 : Below w3.heap.size w3 w4 := hW3.next hb4 hW3.size
  have X4 := Lib.hid ((hbw4.block w.heap.size (by omega)).trans X3.out)
  have Y4 := Lib.hid ((hbw4.block w1.heap.size (by omega)).trans Y3.out)
  clear hb4
  obtain ⟨g0, g1, _, _⟩ := box2 X4.out
  obtain ⟨g2, g3, _, _⟩ := box2 Y4.out
  go_wp2_with fail
  clear g0 g1 g2 g3
  have hb24 : Below w2.heap.size w2 w4 := hbw3.next hbw4 hbw3.size
  have hb14 : Below w1.heap.size w1 w4 := hbw2.next hb24 hbw2.size
  have hb04 : Below w.heap.size w w4 := hbw1.next hb14 hbw1.size
  refine (sameTape_ok _ A1 A t c1 c (hs1.bz.bbelow hb14) (Ha.out.bbelow hb04)).mono ?_
  rintro e w5 ⟨rfl, hb5⟩
  go_wp2
  go_ret
  exact ⟨by simp, hb04.next hb5 hb04.size⟩
end Go.Proofs.Ytdhbnhjgbcipkaa
