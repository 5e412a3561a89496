/- Walks: pairs, one by one. -/
import Derived.Test.YtjgdeeabejoegaaDoorBytes
namespace Go.Proofs.YtjgdeeabejoegaaDoor
open Go.RowKit
set_option linter.unusedVariables false
set_option linter.unusedSimpArgs false

abbrev Pr := List UInt8 × List UInt8
/-- The two cells of a pair. -/
def PairR (S : Nat → Prop) (w : World) (cs : List Value) (p : Pr) : Prop :=
  ∃ A c B d, cs = [.slice A p.1.length c, .slice B p.2.length d] ∧ Bs S w A p.1 ∧ Bs S w B p.2 ∧ p.1.length ≤ big ∧ p.2.length ≤ big
theorem pairR_stays : Stays PairR :=
  ⟨fun _ _ _ _ _ hb ⟨A, c, B, d, h0, h1, h2, h3⟩ => ⟨A, c, B, d, h0, h1.bsame hb, h2.bsame hb, h3⟩, fun _ _ _ _ _ hb ⟨A, c, B, d, h0, h1, h2, h3⟩ => ⟨A, c, B, d, h0, h1.bless hb, h2.bless hb, h3⟩⟩
/-- The call returns a pair that reads as p. -/
def RetPair (w : World) (p : Pr) (e : Ending) (w' : World) : Prop :=
  ∃ A c B d, e = .returned (.agg #[.slice A p.1.length c, .slice B p.2.length d]) ∧ Bs (From w.heap.size) w' A p.1 ∧ Bs (From w.heap.size) w' B p.2 ∧ Below w.heap.size w w'

set_option maxHeartbeats 400000 in
theorem pairCopy_ok (w : World) (A B : Option Addr) (p : Pr) (c d : Nat) (ha : Bs All w A p.1) (hb : Bs All w B p.2) (h1 : p.1.length ≤ big) (h2 : p.2.length ≤ big) :
    Calls Tryd.prog 73 #[.agg #[.slice A p.1.length c, .slice B p.2.length d]] w (RetPair w p) := by
  have Ha := Lib.hid ha
  have Hb := Lib.hid hb
  clear ha hb
  go_enter Tryd.func73, Tryd.ntmps73
  go_wp2_with fail
  go_region_held3 (fun w' => w'.cell? ⟨w.heap.size, 0, none⟩ = some (.slice A p.1.length c) ∧ w'.cell? ⟨w.heap.size, 1, none⟩ = some (.slice B p.2.length d))
    (first
      | go_keep
      | (go_split_ands; refine ⟨(hb1.cell (by first | (simp; done) | omega | (simp; omega))).trans (by assumption), (hb1.cell (by first | (simp; done) | omega | (simp; omega))).trans (by assumption)⟩)
      | (go_split_ands; refine ⟨(hb2.cell (by have hq1 := hb1.size; simp at hq1 ⊢; omega)).trans (by assumption), (hb2.cell (by have hq1 := hb1.size; simp at hq1 ⊢; omega)).trans (by assumption)⟩))
    (first
      | (go_at_call 42; (with_reducible refine (joinedNil_ok _ A p.1 c ?ha h1).mono ?_); (case ha => (refine Ha.out.bbelow ?_; repeat' (first | exact Below.refl _ _ | assumption | refine Below.drew ?_ | refine below_drewN ?_ _ | refine Below.alloc ?_ (by first | exact Nat.le_refl _ | omega | (simp; done) | (simp; omega)) _))); rintro e w1 ⟨A1, c1, rfl, hs1, hb1⟩)
      | (go_at_call 42; (with_reducible refine (joinedNil_ok _ B p.2 d ?ha h2).mono ?_); (case ha => (refine Hb.out.bbelow (Below.next ?_ hb1 (by first | (simp; done) | omega | (simp; omega))); repeat' (first | exact Below.refl _ _ | assumption | refine Below.drew ?_ | refine below_drewN ?_ _ | refine Below.alloc ?_ (by first | exact Nat.le_refl _ | omega | (simp; done) | (simp; omega)) _))); rintro e w2 ⟨A2, c2, rfl, hs2, hb2⟩; have g0 : w2.cell? ⟨w.heap.size + 1, 0, none⟩ = some (.slice none 0 0) := (hb2.cell (by have hq1 := hb1.size; simp at hq1 ⊢; omega)).trans ((hb1.cell (by first | (simp; done) | omega | (simp; omega))).trans (by simp)); have g1 : w2.cell? ⟨w.heap.size + 1, 1, none⟩ = some (.slice none 0 0) := (hb2.cell (by have hq1 := hb1.size; simp at hq1 ⊢; omega)).trans ((hb1.cell (by first | (simp; done) | omega | (simp; omega))).trans (by simp)); have f0 : w2.frozen? ⟨w.heap.size + 1, 0, none⟩ = false := (hb2.frozen (by have hq1 := hb1.size; simp at hq1 ⊢; omega)).trans ((hb1.frozen (by first | (simp; done) | omega | (simp; omega))).trans (by simp)); have f1 : w2.frozen? ⟨w.heap.size + 1, 1, none⟩ = false := (hb2.frozen (by have hq1 := hb1.size; simp at hq1 ⊢; omega)).trans ((hb1.frozen (by first | (simp; done) | omega | (simp; omega))).trans (by simp))))
  all_goals
    go_wp2
    refine bodyPost_ret (v := .agg #[.slice A1 p.1.length c1, .slice A2 p.2.length c2]) (by simp [results, Tryd.results73, go_sem, g0, g1]) rfl ⟨A1, c1, A2, c2, rfl, ?_, ?_, ?_⟩
    · exact ((hs1.bbelow hb2).bsame (((Same.refl _ _).setCell (fun hq => by simp only [From] at hq; first | omega | (simp at hq; done) | (simp at hq; omega)) _).setCell (fun hq => by simp only [From] at hq; first | omega | (simp at hq; done) | (simp at hq; omega)) _)).blo (by first | (simp; done) | omega | (simp; omega))
    · exact (hs2.bsame (((Same.refl _ _).setCell (fun hq => by have hq1 := hb1.size; simp [From] at hq hq1; omega) _).setCell (fun hq => by have hq1 := hb1.size; simp [From] at hq hq1; omega) _)).blo (by have hq1 := hb1.size; simp at hq1 ⊢; omega)
    · refine Below.setCell (Below.setCell (Below.next (Below.next ?_ hb1 (by first | (simp; done) | omega | (simp; omega))) hb2 (by have hq1 := hb1.size; simp at hq1 ⊢; omega)) (by first | (simp; done) | omega | (simp; omega)) _) (by first | (simp; done) | omega | (simp; omega)) _
      repeat' (first | exact Below.refl _ _ | assumption | refine Below.drew ?_ | refine below_drewN ?_ _ | refine Below.alloc ?_ (by first | exact Nat.le_refl _ | omega | (simp; done) | (simp; omega)) _)

/-- The pair that the value v holds. -/
def IsPair (w : World) (v : Value) (p : Pr) : Prop := ∃ A c B d, v = .agg #[.slice A p.1.length c, .slice B p.2.length d] ∧ Bs All w A p.1 ∧ Bs All w B p.2 ∧ p.1.length ≤ big ∧ p.2.length ≤ big

/-- What tree.pair and pairFault answer. -/
def pairFaultS (p : Pr) : Int := if 32 < p.2.length then 1 else keyFault p.1

set_option maxHeartbeats 400000 in
theorem treePair_ok (w : World) (A B : Option Addr) (p : Pr) (c d : Nat) :
    Calls Tryd.prog 97 #[.agg #[.slice A p.1.length c, .slice B p.2.length d]] w (RetV w (.int .i64 (pairFaultS p))) := by
  by_cases h : 32 < p.2.length
  all_goals
    go_enter Tryd.func97, Tryd.ntmps97
    go_wp2_with (go_at_call 75; refine (pathCheck_ok _ A p.1 c).mono ?_; rintro e w' ⟨rfl, rfl⟩)
    go_ret
    refine ⟨?_, ?_⟩
    · simp [pairFaultS, h]
    · repeat' (first | exact Below.refl _ _ | assumption | refine Below.drew ?_ | refine below_drewN ?_ _ | refine Below.alloc ?_ (by first | exact Nat.le_refl _ | omega | (simp; done) | (simp; omega)) _)
set_option maxHeartbeats 400000 in
theorem pairFault_ok (w : World) (A B : Option Addr) (p : Pr) (c d : Nat) :
    Calls Tryd.prog 102 #[.agg #[.slice A p.1.length c, .slice B p.2.length d]] w (RetV w (.int .i64 (pairFaultS p))) := by
  by_cases h : 32 < p.2.length
  all_goals
    go_enter Tryd.func102, Tryd.ntmps102
    go_wp2_with (go_at_call 86; refine (keyFault_ok _ A p.1 c).mono ?_; rintro e w' ⟨rfl, rfl⟩)
    go_ret
    refine ⟨?_, ?_⟩
    · simp [pairFaultS, h]
    · repeat' (first | exact Below.refl _ _ | assumption | refine Below.drew ?_ | refine below_drewN ?_ _ | refine Below.alloc ?_ (by first | exact Nat.le_refl _ | omega | (simp; done) | (simp; omega)) _)
set_option maxHeartbeats 400000 in
theorem compare_ok (w : World) (A B : Option Addr) (p : Pr) (c d : Nat) (A' B' : Option Addr) (q : Pr) (c' d' : Nat) (hp : Bs All w A p.1) (hq : Bs All w A' q.1) :
    Calls Tryd.prog 98 #[.agg #[.slice A p.1.length c, .slice B p.2.length d], .agg #[.slice A' q.1.length c', .slice B' q.2.length d']] w (RetV w (.int .i64 (cmp3 p.1 q.1))) := by
  have Hp := Lib.hid hp
  have Hq := Lib.hid hq
  clear hp hq
  go_enter Tryd.func98, Tryd.ntmps98
  go_wp2_with (go_at_call 106; refine (bytesCompare_ok _ A A' p.1 q.1 c c' (Hp.out.bbelow ?_) (Hq.out.bbelow ?_)).mono ?_; (repeat' (first | exact Below.refl _ _ | assumption | refine Below.drew ?_ | refine below_drewN ?_ _ | refine Below.alloc ?_ (by first | exact Nat.le_refl _ | omega | (simp; done) | (simp; omega)) _)); (repeat' (first | exact Below.refl _ _ | assumption | refine Below.drew ?_ | refine below_drewN ?_ _ | refine Below.alloc ?_ (by first | exact Nat.le_refl _ | omega | (simp; done) | (simp; omega)) _)); rintro e w' ⟨rfl, rfl⟩)
  go_ret
  refine ⟨rfl, ?_⟩
  repeat' (first | exact Below.refl _ _ | assumption | refine Below.drew ?_ | refine below_drewN ?_ _ | refine Below.alloc ?_ (by first | exact Nat.le_refl _ | omega | (simp; done) | (simp; omega)) _)
end Go.Proofs.YtjgdeeabejoegaaDoor
