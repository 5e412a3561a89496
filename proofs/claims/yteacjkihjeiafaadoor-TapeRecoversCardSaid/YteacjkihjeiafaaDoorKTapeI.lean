/- TapeI: The law TapeRecovers: its walk. The conditions of each are in its words. -/
import Derived.OpenShut
import Derived.Test.YteacjkihjeiafaaDoorKTapeH
import Derived.Test.YteacjkihjeiafaaDoorKCommit
namespace Go.Proofs.YteacjkihjeiafaaDoor
open Go.RowKit
set_option linter.unusedVariables false
set_option linter.unusedSimpArgs false

/-- What recovery hands back, as slices that read so. -/
def RetRecS (w : World) (r : (List Cm × Tp) × Int) (e : Ending) (w' : World) : Prop :=
  ∃ A n B d, e = .returned (.tuple #[.slice A r.1.1.length n, .agg #[.slice B r.1.2.1.length d, .int .i64 r.1.2.2], .int .i64 r.2]) ∧ Cs All w' A r.1.1 ∧ Bs All w' B r.1.2.1 ∧ Below w.heap.size w w'
theorem RetRec.sl {w : World} {r : (List Cm × Tp) × Int} {e : Ending} {w' : World} (h : RetRec w r e w') : RetRecS w r e w' := by
  obtain ⟨v, B, d, he, _, hown, hB, hb⟩ := h
  obtain ⟨A, n, rfl, _, hs⟩ := hown.readc cmR_stays
  exact ⟨A, n, B, d, he, hs.z cmR_stays, hB.bz, hb⟩
theorem recF_len : ∀ (k : Nat) (d : List UInt8) (t : Nat), (recF k d t).1.length ≤ k
  | 0, _, _ => Nat.le_refl _
  | k + 1, d, t => by
    unfold recF
    split
    · exact Nat.zero_le _
    · split
      · exact Nat.zero_le _
      · rw [List.length_cons]
        exact Nat.succ_le_succ (recF_len k _ (t + 1))
set_option maxRecDepth 100000 in
set_option maxHeartbeats 1000000 in
theorem tapeRecovers_walk (w : World) (hT : TabsAt w) {cl : List Value} {t : Tp} (h : TapeR All w cl t) :
    Calls Tryd.prog 6 #[.agg cl.toArray] w (RetV w (.bool true)) := by
  obtain ⟨A, c, rfl, hcap, ha, h1⟩ := h
  have Ha := Lib.hid ha
  have HT := Lib.hid hT
  have Hc := Lib.hid hcap
  obtain ⟨rl, rt, ri, hr⟩ : ∃ (rl : List Cm) (rt : Tp) (ri : Int), recS t = ((rl, rt), ri) := ⟨_, _, _, rfl⟩
  have hrl : rl.length ≤ big := by
    have h2 : rl = (recS t).1.1 := by rw [hr]
    rw [h2]
    unfold recS
    split
    · exact Nat.zero_le _
    · exact Nat.le_trans (recF_len _ _ _) h1
  clear ha hcap hT
  have Hp := Lib.hid (show ∀ (W : World) (A : Option Addr) (c : Nat), TabsAt W → Bs All W A t.1 → Calls Tryd.prog 23 #[.agg #[.slice A t.1.length c, .int .i64 t.2]] W (RetRecS W ((rl, rt), ri)) from fun W A c h0 h => by rw [← hr]; exact (tapeRecover_ok W h0 A t c h).mono fun _ _ h => h.sl)
  have Hq := Lib.hid (show ∀ (W : World) (A : Option Addr) (c : Nat), Bs All W A t.1 → t.1.length ≤ c → Calls Tryd.prog 24 #[.agg #[.slice A t.1.length c, .int .i64 t.2]] W (RetRecS W ((rl, rt), ri)) from fun W A c h hc => by rw [← hr]; exact (tapeRecovered_ok W A t c h hc).mono fun _ _ h => h.sl)
  clear hr
  go_enter Tryd.func6, Tryd.ntmps6
  go_wp2_with fail
  refine (tapes_ok _ A t c (Ha.out.bbelow ?hx) h1).mono ?_
  case hx => repeat' (first | exact Below.refl _ _ | assumption | refine Below.drew ?_ | refine below_drewN ?_ _ | refine Below.alloc ?_ (by first | exact Nat.le_refl _ | omega | (simp; done) | (simp; omega)) _)
  rintro e w1 ⟨A1, c1, rfl, hcap1, hs1, hb1⟩
  have hbw1 : Below w.heap.size w w1 := Below.next ((Below.refl _ _).alloc (Nat.le_refl _) _) hb1 (by first | (simp; done) | omega | (simp; omega))
  have x1 := (hb1.block w.heap.size (by first | (simp; done) | omega | (simp; omega))).trans (box_new w _ _)
  have z1 : w.heap.size < w1.heap.size := by have := hb1.size; simp at this; omega
  clear hb1
  go_wp2_with fail
  refine (Hp.out _ A1 c1 (HT.out.below ?hy) (hs1.bz.bbelow ((Below.refl _ _).alloc (Nat.le_refl _) _))).mono ?_
  case hy => exact hbw1.alloc hbw1.size _
  rintro e w2 ⟨L2, n2, A2, c2, rfl, hl2, hs2, hb2⟩
  dsimp only at *
  have hbw2 : Below w1.heap.size w1 w2 := Below.next ((Below.refl _ _).alloc (Nat.le_refl _) _) hb2 (by first | (simp; done) | omega | (simp; omega))
  have y2 := (hb2.block w1.heap.size (by first | (simp; done) | omega | (simp; omega))).trans (box_new w1 _ _)
  have x2 := (hbw2.block w.heap.size z1).trans x1
  have z2 : w1.heap.size < w2.heap.size := by have := hb2.size; simp at this; omega
  have z2' : w.heap.size < w2.heap.size := by omega
  clear hb2 x1
  obtain ⟨g0, g1, _, _⟩ := box2 x2
  have X2 := Lib.hid x2
  have Y2 := Lib.hid y2
  have Hs2 := Lib.hid hs2
  have Hl2 := Lib.hid hl2
  clear x2 y2 hs2 hl2
  go_wp2_with fail
  clear g0 g1
  refine (Hq.out _ A c (Ha.out.bbelow ?hx) Hc.out).mono ?_
  case hx => exact (hbw1.next hbw2 (by omega)).alloc (by omega) _
  rintro e w3 ⟨L3, n3, A3, c3, rfl, hl3, hs3, hb3⟩
  dsimp only at *
  have hbw3 : Below w2.heap.size w2 w3 := Below.next ((Below.refl _ _).alloc (Nat.le_refl _) _) hb3 (by first | (simp; done) | omega | (simp; omega))
  have Z3 := Lib.hid ((hb3.block w2.heap.size (by first | (simp; done) | omega | (simp; omega))).trans (box_new w2 _ _))
  have X3 := Lib.hid ((hbw3.block w.heap.size z2').trans X2.out)
  have Y3 := Lib.hid ((hbw3.block w1.heap.size z2).trans Y2.out)
  have z3 : w2.heap.size < w3.heap.size := by have := hb3.size; simp at this; omega
  have Hs3 := Lib.hid hs3
  have Hl3 := Lib.hid hl3
  clear hb3 hs3 hl3
  go_wp2_with fail
  have hW3 : Below w3.heap.size w3 (w3.alloc (.cells #[.slice A3 rt.1.length c3, .int .i64 rt.2] 45)) := (Below.refl _ _).alloc (Nat.le_refl _) _
  refine (sameCommits_ok _ L2 L3 rl n2 n3 (Hl2.out.below cmR_stays (hbw3.next hW3 hbw3.size)) (Hl3.out.below cmR_stays hW3) hrl).mono ?_
  rintro e w4 ⟨rfl, hb4⟩
  have hbw4 : Below w3.heap.size w3 w4 := hW3.next hb4 hW3.size
  have Z4 := Lib.hid ((hbw4.block w2.heap.size (by omega)).trans Z3.out)
  have X4 := Lib.hid ((hbw4.block w.heap.size (by omega)).trans X3.out)
  have Y4 := Lib.hid ((hbw4.block w1.heap.size (by omega)).trans Y3.out)
  have V4 := Lib.hid ((hb4.block w3.heap.size (by simp)).trans (box_new w3 _ _))
  clear hb4
  obtain ⟨g0, g1, _, _⟩ := box2 Z4.out
  obtain ⟨g2, g3, _, _⟩ := box2 V4.out
  go_wp2_with fail
  clear g0 g1 g2 g3
  refine (sameTape_ok _ A2 A3 rt c2 c3 (Hs2.out.bbelow (hbw3.next hbw4 hbw3.size)) (Hs3.out.bbelow hbw4)).mono ?_
  rintro e w5 ⟨rfl, hb5⟩
  have hbw5 : Below w3.heap.size w3 w5 := hbw4.next hb5 hbw4.size
  have X5 := Lib.hid ((hbw5.block w.heap.size (by omega)).trans X3.out)
  have Y5 := Lib.hid ((hbw5.block w1.heap.size (by omega)).trans Y3.out)
  clear hb5
  obtain ⟨g0, g1, _, _⟩ := box2 X5.out
  obtain ⟨g2, g3, _, _⟩ := box2 Y5.out
  go_wp2_with fail
  clear g0 g1 g2 g3
  have hb25 : Below w2.heap.size w2 w5 := hbw3.next hbw5 hbw3.size
  have hb15 : Below w1.heap.size w1 w5 := hbw2.next hb25 hbw2.size
  have hb05 : Below w.heap.size w w5 := hbw1.next hb15 hbw1.size
  refine (sameTape_ok _ A1 A t c1 c (hs1.bz.bbelow hb15) (Ha.out.bbelow hb05)).mono ?_
  rintro e w6 ⟨rfl, hb6⟩
  go_wp2
  go_ret
  exact ⟨by simp, hb05.next hb6 hb05.size⟩
end Go.Proofs.YteacjkihjeiafaaDoor
