/- Walk of the law TapeEncodes. -/
import Derived.Test.YthhcdibimnifaaaEncode
namespace Go.Proofs.Ythhcdibimnifaaa
open Go.RowKit
set_option linter.unusedVariables false
set_option linter.unusedSimpArgs false

theorem encS_len (c : Cm) : (encS c).1.length ≤ big := by
  unfold encS big
  by_cases h : commitFaultS c = 0
  · rw [if_neg (by simpa using h)]
    have h1 := encTo_len h c.2.length (Nat.le_refl _)
    have h2 := (cm_fine h).2.1
    dsimp only
    omega
  · rw [if_pos h]
    simp
set_option maxRecDepth 100000 in
set_option maxHeartbeats 1000000 in
theorem tapeEncodes_walk (w : World) {cl : List Value} {x : Cm} (h : CmR All w cl x) :
    Calls Try.prog 12 #[.agg cl.toArray] w (RetV w (.bool true)) := by
  obtain ⟨A, n, rfl, hs, h80⟩ := h
  obtain ⟨t, l⟩ := x
  dsimp only at *
  have Hs := Lib.hid hs
  clear hs
  have hll : l.length ≤ big := by unfold big; omega
  obtain ⟨r, hr⟩ : ∃ r, r = encS (t, l) := ⟨_, rfl⟩
  have Hp := Lib.hid (show ∀ (W : World) (A : Option Addr) (n : Nat), Ws All W A l → Calls Try.prog 51 #[.agg #[.int .i64 t, .slice A l.length n]] W (RetBE W r) from fun W A n h => by rw [hr]; exact encode_any W A t l n h h80)
  have Hq := Lib.hid (show ∀ (W : World) (A : Option Addr) (n : Nat), Ws All W A l → Calls Try.prog 52 #[.agg #[.int .i64 t, .slice A l.length n]] W (RetBE W r) from fun W A n h => by rw [hr]; exact commitBytes_any W A t l n h h80)
  clear hr
  have Hbox := Lib.hid (show ∀ W, Below (w.heap.size + 1) (w.alloc (.cells #[.int .i64 t, .slice A l.length n] 59)) W → W.cell? ⟨w.heap.size, 0, none⟩ = some (.int .i64 t) ∧ W.cell? ⟨w.heap.size, 1, none⟩ = some (.slice A l.length n) ∧ Below w.heap.size w W ∧ w.heap.size + 1 ≤ W.heap.size from fun W hW => by
    obtain ⟨g0, g1, _, _⟩ := box2 ((hW.block _ (by omega)).trans (box_new w _ _))
    exact ⟨g0, g1, ((Below.refl w.heap.size w).alloc (Nat.le_refl _) _).trans (hW.mono (by omega)), by simpa using hW.size⟩)
  go_enter Try.func12, Try.ntmps12
  go_wp2_with (first
    | (go_at_call 49; refine (commit_ok _ A t l n (Hs.out.below wrR_stays ?_) h80).mono ?_; (repeat' (first | exact Below.refl _ _ | assumption | refine Below.drew ?_ | refine below_drewN ?_ _ | refine Below.alloc ?_ (by first | exact Nat.le_refl _ | omega | (simp; done) | (simp; omega)) _)); rintro e w1 ⟨A1, n1, rfl, _, hs1, hb1'⟩; have hb1 : Below (w.heap.size + 1) (w.alloc (.cells #[.int .i64 t, .slice A l.length n] 59)) w1 := hb1'.mono (by first | (simp; done) | omega | (simp; omega)); obtain ⟨g0, g1, hw1, hz1⟩ := Hbox.out w1 hb1; have Hs1 := Lib.hid (hs1.z wrR_stays); clear hs1 hb1')
    | (go_at_call 51; refine (Hp.out _ A1 n1 (Hs1.out.below wrR_stays ((Below.refl _ _).alloc (Nat.le_refl _) _))).mono ?_; rintro e w2 ⟨A2, n2, rfl, hs2, hb2⟩; have hd2 := (hb2.block w1.heap.size (by simp)).trans (box_new w1 _ _); have hb12 : Below w1.heap.size w1 w2 := ((Below.refl _ _).alloc (Nat.le_refl _) _).next hb2 (by simp); obtain ⟨g2, g3, hw2, hz2⟩ := Hbox.out w2 (hb1.next hb12 hz1); have hy2 : w1.heap.size < w2.heap.size := (by have := hb2.size; simp at this; omega); have Hd2 := Lib.hid hd2; have Hs2 := Lib.hid hs2.bz; clear hd2 hs2 hb2)
    | (go_at_call 52; refine (Hq.out _ A n (Hs.out.below wrR_stays hw2)).mono ?_; rintro e w3 ⟨A3, n3, rfl, hs3, hb3⟩; obtain ⟨g4, g5, hw3, hz3⟩ := Hbox.out w3 ((hb1.next hb12 hz1).next hb3 hz2); obtain ⟨d0, d1, _, _⟩ := box2 ((hb3.block _ hy2).trans Hd2.out); have Hs3 := Lib.hid hs3.bz; clear hs3)
    | (go_at_call 53; refine (sameBytes_ok _ A2 A3 r.1 r.1 n2 n3 (Hs2.out.bbelow hb3) Hs3.out).mono ?_; rintro e w4 ⟨rfl, rfl⟩)
    | (go_at_call 54; refine (sameCommit_ok _ A A1 t l n n1 (Hs.out.below wrR_stays hw3) ((Hs1.out.below wrR_stays hb12).below wrR_stays hb3) hll).mono ?_; rintro e w5 ⟨rfl, hb5⟩; have hw5 := hw3.next hb5 (by omega)))
  go_ret
  exact ⟨by simp, hw5⟩
end Go.Proofs.Ythhcdibimnifaaa
