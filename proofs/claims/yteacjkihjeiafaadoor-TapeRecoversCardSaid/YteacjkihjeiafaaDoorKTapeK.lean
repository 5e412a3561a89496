/- TapeK: Walks: tapes synced and crashed. The walk of TapeSyncs. The conditions of each are in its words. -/
import Derived.OpenShut
import Derived.Test.YteacjkihjeiafaaDoorKBase
namespace Go.Proofs.YteacjkihjeiafaaDoor
open Go.RowKit
set_option linter.unusedVariables false
set_option linter.unusedSimpArgs false

abbrev Tp := List UInt8 × Int
/-- The two cells of a tape. -/
def TapeR (S : Nat → Prop) (w : World) (cs : List Value) (t : Tp) : Prop := ∃ A c, cs = [.slice A t.1.length c, .int .i64 t.2] ∧ t.1.length ≤ c ∧ Bs S w A t.1 ∧ t.1.length ≤ big
/-- The call returns a tape. -/
def RetTape (w : World) (t : Tp) (e : Ending) (w' : World) : Prop :=
  ∃ A c, e = .returned (.agg #[.slice A t.1.length c, .int .i64 t.2]) ∧ t.1.length ≤ c ∧ Bs (From w.heap.size) w' A t.1 ∧ Below w.heap.size w w'
/-- .. and a value. -/
def RetTapeV (w : World) (t : Tp) (v : Value) (e : Ending) (w' : World) : Prop :=
  ∃ A c, e = .returned (.tuple #[.agg #[.slice A t.1.length c, .int .i64 t.2], v]) ∧ t.1.length ≤ c ∧ Bs (From w.heap.size) w' A t.1 ∧ Below w.heap.size w w'
def mayS (t : Tp) : Bool := decide (0 ≤ t.2 ∧ t.2 ≤ t.1.length ∧ t.1.length ≤ 200000)
theorem mayS_iff (t : Tp) : mayS t = true ↔ (0 ≤ t.2 ∧ t.2 ≤ t.1.length ∧ t.1.length ≤ 200000) := by simp [mayS]
set_option maxRecDepth 100000 in
set_option maxHeartbeats 1000000 in
theorem tapes_ok (w : World) (A : Option Addr) (t : Tp) (c : Nat) (ha : Bs All w A t.1) (h1 : t.1.length ≤ big) :
    Calls Tryd.prog 18 #[.agg #[.slice A t.1.length c, .int .i64 t.2]] w (RetTape w t) := by
  have Ha := Lib.hid ha
  clear ha
  go_enter Tryd.func18, Tryd.ntmps18
  go_wp2_with fail
  go_region_held3 (fun w' => w'.cell? ⟨w.heap.size, 0, none⟩ = some (.slice A t.1.length c) ∧ w'.cell? ⟨w.heap.size, 1, none⟩ = some (.int .i64 t.2))
    (first
      | go_keep
      | (go_split_ands; refine ⟨(hb1.cell (by first | (simp; done) | omega | (simp; omega))).trans (by assumption), (hb1.cell (by first | (simp; done) | omega | (simp; omega))).trans (by assumption)⟩))
    ((go_at_call 9; (with_reducible refine (octets_cap _ A t.1 c ?ha h1).mono ?_); (case ha => (refine Ha.out.bbelow ?_; repeat' (first | exact Below.refl _ _ | assumption | refine Below.drew ?_ | refine below_drewN ?_ _ | refine Below.alloc ?_ (by first | exact Nat.le_refl _ | omega | (simp; done) | (simp; omega)) _))); rintro e w1 ⟨A1, c1, rfl, hcap, hs1, hb1⟩; have g0 : w1.cell? ⟨w.heap.size + 1, 0, none⟩ = some (.slice none 0 0) := (hb1.cell (by first | (simp; done) | omega | (simp; omega))).trans (by simp); have g1 : w1.cell? ⟨w.heap.size + 1, 1, none⟩ = some (.int .i64 0) := (hb1.cell (by first | (simp; done) | omega | (simp; omega))).trans (by simp); have f0 : w1.frozen? ⟨w.heap.size + 1, 0, none⟩ = false := (hb1.frozen (by first | (simp; done) | omega | (simp; omega))).trans (by simp); have f1 : w1.frozen? ⟨w.heap.size + 1, 1, none⟩ = false := (hb1.frozen (by first | (simp; done) | omega | (simp; omega))).trans (by simp)))
  go_wp2
  refine bodyPost_ret (v := .agg #[.slice A1 t.1.length c1, .int .i64 t.2]) (by simp [results, Tryd.results18, go_sem, g0, g1]) rfl ⟨A1, c1, rfl, hcap, ?_, ?_⟩
  · exact (hs1.bsame (((Same.refl _ _).setCell (fun hq => by simp only [From] at hq; first | omega | (simp at hq; done) | (simp at hq; omega)) _).setCell (fun hq => by simp only [From] at hq; first | omega | (simp at hq; done) | (simp at hq; omega)) _)).blo (by first | (simp; done) | omega | (simp; omega))
  · refine Below.setCell (Below.setCell (Below.next ?_ hb1 (by first | (simp; done) | omega | (simp; omega))) (by first | (simp; done) | omega | (simp; omega)) _) (by first | (simp; done) | omega | (simp; omega)) _
    repeat' (first | exact Below.refl _ _ | assumption | refine Below.drew ?_ | refine below_drewN ?_ _ | refine Below.alloc ?_ (by first | exact Nat.le_refl _ | omega | (simp; done) | (simp; omega)) _)
set_option maxRecDepth 100000 in
set_option maxHeartbeats 1000000 in
theorem tapeOpen_yes (w : World) (A : Option Addr) (t : Tp) (c : Nat) (ha : Bs All w A t.1) (hm : mayS t = true) :
    Calls Tryd.prog 49 #[.agg #[.slice A t.1.length c, .int .i64 t.2]] w (RetTapeV w t (.bool true)) := by
  obtain ⟨m0, m1, m2⟩ := (mayS_iff t).1 hm
  have h1 : t.1.length ≤ big := by unfold big; omega
  have b1 : decide (t.2 < 0) = false := by simp; omega
  have b2 : decide ((t.1.length : Int) < t.2) = false := by simp; omega
  have b3 : decide (200000 < (t.1.length : Int)) = false := by simp; omega
  clear hm
  have Ha := Lib.hid ha
  clear ha
  go_enter Tryd.func49, Tryd.ntmps49
  go_wp2_with fail
  go_region_held3 (fun w' => w'.cell? ⟨w.heap.size, 0, none⟩ = some (.slice A t.1.length c) ∧ w'.cell? ⟨w.heap.size, 1, none⟩ = some (.int .i64 t.2))
    (first
      | go_keep
      | (go_split_ands; refine ⟨(hb1.cell (by first | (simp; done) | omega | (simp; omega))).trans (by assumption), (hb1.cell (by first | (simp; done) | omega | (simp; omega))).trans (by assumption)⟩))
    ((go_at_call 68; (with_reducible refine (clone_cap _ A t.1 c ?ha h1).mono ?_); (case ha => (refine Ha.out.bbelow ?_; repeat' (first | exact Below.refl _ _ | assumption | refine Below.drew ?_ | refine below_drewN ?_ _ | refine Below.alloc ?_ (by first | exact Nat.le_refl _ | omega | (simp; done) | (simp; omega)) _))); rintro e w1 ⟨A1, c1, rfl, hcap, hs1, hb1⟩; have g0 : w1.cell? ⟨w.heap.size + 1, 0, none⟩ = some (.slice none 0 0) := (hb1.cell (by first | (simp; done) | omega | (simp; omega))).trans (by simp); have g1 : w1.cell? ⟨w.heap.size + 1, 1, none⟩ = some (.int .i64 0) := (hb1.cell (by first | (simp; done) | omega | (simp; omega))).trans (by simp); have f0 : w1.frozen? ⟨w.heap.size + 1, 0, none⟩ = false := (hb1.frozen (by first | (simp; done) | omega | (simp; omega))).trans (by simp); have f1 : w1.frozen? ⟨w.heap.size + 1, 1, none⟩ = false := (hb1.frozen (by first | (simp; done) | omega | (simp; omega))).trans (by simp)))
  go_wp2
  refine bodyPost_ret (v := .tuple #[.agg #[.slice A1 t.1.length c1, .int .i64 t.2], .bool true]) (by simp [results, Tryd.results49, go_sem, g0, g1]) rfl ⟨A1, c1, rfl, hcap, ?_, ?_⟩
  · exact (hs1.bsame (((Same.refl _ _).setCell (fun hq => by simp only [From] at hq; first | omega | (simp at hq; done) | (simp at hq; omega)) _).setCell (fun hq => by simp only [From] at hq; first | omega | (simp at hq; done) | (simp at hq; omega)) _)).blo (by first | (simp; done) | omega | (simp; omega))
  · refine Below.setCell (Below.setCell (Below.next ?_ hb1 (by first | (simp; done) | omega | (simp; omega))) (by first | (simp; done) | omega | (simp; omega)) _) (by first | (simp; done) | omega | (simp; omega)) _
    repeat' (first | exact Below.refl _ _ | assumption | refine Below.drew ?_ | refine below_drewN ?_ _ | refine Below.alloc ?_ (by first | exact Nat.le_refl _ | omega | (simp; done) | (simp; omega)) _)
set_option maxRecDepth 100000 in
set_option maxHeartbeats 1000000 in
theorem tapeOpen_no (w : World) (A : Option Addr) (t : Tp) (c : Nat) (hm : mayS t = false) :
    Calls Tryd.prog 49 #[.agg #[.slice A t.1.length c, .int .i64 t.2]] w (RetTapeV w ([], 0) (.bool false)) := by
  have hno : ¬ (0 ≤ t.2 ∧ t.2 ≤ t.1.length ∧ t.1.length ≤ 200000) := fun h => by rw [(mayS_iff t).2 h] at hm; cases hm
  clear hm
  rcases (by omega : t.2 < 0 ∨ (0 ≤ t.2 ∧ (t.1.length : Int) < t.2) ∨ (0 ≤ t.2 ∧ t.2 ≤ t.1.length ∧ 200000 < t.1.length)) with h | ⟨h, h'⟩ | ⟨h, h', h''⟩
  all_goals
    clear hno
    go_enter Tryd.func49, Tryd.ntmps49
    go_wp2
    refine bodyPost_ret (v := .tuple #[.agg #[.slice none 0 0, .int .i64 0], .bool false]) (by simp [results, Tryd.results49, go_sem]) rfl ⟨none, 0, rfl, Nat.le_refl _, SL.nil, ?_⟩
    repeat' (first | exact Below.refl _ _ | assumption | refine Below.drew ?_ | refine below_drewN ?_ _ | refine Below.setCell ?_ (by first | (simp; done) | omega | (simp; omega)) _ | refine Below.alloc ?_ (by first | exact Nat.le_refl _ | omega | (simp; done) | (simp; omega)) _)
set_option maxRecDepth 100000 in
set_option maxHeartbeats 1000000 in
theorem tapeMay_ok (w : World) (A : Option Addr) (t : Tp) (c : Nat) :
    Calls Tryd.prog 53 #[.agg #[.slice A t.1.length c, .int .i64 t.2]] w (RetV w (.bool (mayS t))) := by
  rcases (by omega : 200000 < t.1.length ∨ t.1.length ≤ 200000) with h | h
  · have b1 : decide ((t.1.length : Int) ≤ 200000) = false := by simp; omega
    go_enter Tryd.func53, Tryd.ntmps53
    go_wp2
    go_ret
    refine ⟨ret_bool (by unfold mayS; symm; exact decide_eq_false (by omega)), ?_⟩
    repeat' (first | exact Below.refl _ _ | assumption | refine Below.drew ?_ | refine below_drewN ?_ _ | refine Below.setCell ?_ (by first | (simp; done) | omega | (simp; omega)) _ | refine Below.alloc ?_ (by first | exact Nat.le_refl _ | omega | (simp; done) | (simp; omega)) _)
  · have b1 : decide ((t.1.length : Int) ≤ 200000) = true := by simp; omega
    go_enter Tryd.func53, Tryd.ntmps53
    go_wp2_with (go_at_call 72; refine (in_ok _ _ _ _).mono ?_; rintro e w' ⟨rfl, rfl⟩)
    go_ret
    refine ⟨ret_bool (by unfold mayS; rw [← Bool.decide_and]; exact decide_eq_decide.2 (by omega)), ?_⟩
    repeat' (first | exact Below.refl _ _ | assumption | refine Below.drew ?_ | refine below_drewN ?_ _ | refine Below.setCell ?_ (by first | (simp; done) | omega | (simp; omega)) _ | refine Below.alloc ?_ (by first | exact Nat.le_refl _ | omega | (simp; done) | (simp; omega)) _)
set_option maxRecDepth 100000 in
set_option maxHeartbeats 1000000 in
theorem sameTape_ok (w : World) (A B : Option Addr) (t : Tp) (c d : Nat) (ha : Bs All w A t.1) (hb : Bs All w B t.1) :
    Calls Tryd.prog 22 #[.agg #[.slice A t.1.length c, .int .i64 t.2], .agg #[.slice B t.1.length d, .int .i64 t.2]] w (RetV w (.bool true)) := by
  have Ha := Lib.hid ha
  have Hb := Lib.hid hb
  clear ha hb
  go_enter Tryd.func22, Tryd.ntmps22
  go_wp2_with (go_at_call 29; refine (sameBytes_ok _ A B t.1 t.1 c d (Ha.out.bbelow ?_) (Hb.out.bbelow ?_)).mono ?_; (repeat' (first | exact Below.refl _ _ | assumption | refine Below.drew ?_ | refine below_drewN ?_ _ | refine Below.alloc ?_ (by first | exact Nat.le_refl _ | omega | (simp; done) | (simp; omega)) _)); (repeat' (first | exact Below.refl _ _ | assumption | refine Below.drew ?_ | refine below_drewN ?_ _ | refine Below.alloc ?_ (by first | exact Nat.le_refl _ | omega | (simp; done) | (simp; omega)) _)); rintro e w2 ⟨rfl, rfl⟩)
  go_ret
  refine ⟨by simp, ?_⟩
  repeat' (first | exact Below.refl _ _ | assumption | refine Below.drew ?_ | refine below_drewN ?_ _ | refine Below.alloc ?_ (by first | exact Nat.le_refl _ | omega | (simp; done) | (simp; omega)) _)
end Go.Proofs.YteacjkihjeiafaaDoor
namespace Go.Proofs.YteacjkihjeiafaaDoor
open Go.RowKit
set_option linter.unusedVariables false
set_option linter.unusedSimpArgs false

end Go.Proofs.YteacjkihjeiafaaDoor
