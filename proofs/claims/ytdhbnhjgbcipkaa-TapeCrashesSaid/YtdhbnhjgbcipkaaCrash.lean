/- Walks: tapes crashed. -/
import Derived.Test.YtdhbnhjgbcipkaaTape
import Derived.OpenShut
namespace Go.Proofs.Ytdhbnhjgbcipkaa
open Go.RowKit

def crashN (t : Tp) (k : Int) : Nat := if k < t.1.length - t.2 then (t.2 + k).toNat else t.1.length
def crashS (t : Tp) (k : Int) : Tp × Int := if mayS t then (if k < 0 then (([], 0), 2) else ((t.1.take (crashN t k), (crashN t k : Int)), 0)) else (([], 0), 6)
theorem SL.top {α : Type} {size : Nat} {R : (Nat → Prop) → World → List Value → α → Prop} {S : Nat → Prop} {w : World} {A : Option Addr} {l : List α} (h : SL size R S w A l) (n : Nat) : SL size R S w A (l.take n) := by
  intro hl
  have hln : 0 < l.length := by rw [List.length_take] at hl; omega
  obtain ⟨b', off', e, h0, hlt, hi⟩ := h hln
  refine ⟨b', off', e, h0, hlt, fun j hj => ?_⟩
  have hj' : j < l.length := by rw [List.length_take] at hj; omega
  rw [List.getElem_take]
  exact hi j hj'
set_option maxRecDepth 100000 in
set_option maxHeartbeats 1000000 in
theorem tapeCrash_ok (w : World) (A : Option Addr) (t : Tp) (c : Nat) (k : Int) (hc : t.1.length ≤ c) (ha : Bs All w A t.1) :
    Calls Try.prog 28 #[.agg #[.slice A t.1.length c, .int .i64 t.2], .int .i64 k] w (RetTapeV w (crashS t k).1 (.int .i64 (crashS t k).2)) := by
  have Ha := Lib.hid ha
  clear ha
  rcases Bool.eq_false_or_eq_true (mayS t) with hm | hm
  · rcases (by omega : k < 0 ∨ 0 ≤ k) with hk | hk
    · have hS : crashS t k = (([], 0), 2) := by unfold crashS; rw [if_pos hm, if_pos hk]
      rw [hS]
      clear hS
      have Hm := Lib.hid hm
      clear hm
      go_enter Try.func28, Try.ntmps28
      go_wp2_with (go_at_call 36; refine (tapeOpen_yes _ A t c (Ha.out.bbelow ?_) Hm.out).mono ?_; (repeat' (first | exact Below.refl _ _ | assumption | refine Below.drew ?_ | refine below_drewN ?_ _ | refine Below.alloc ?_ (by first | exact Nat.le_refl _ | omega | (simp; done) | (simp; omega)) _)); rintro e w1 ⟨A1, c1, rfl, hcap, hs1, hb1⟩; have g0 : w1.cell? ⟨w.heap.size + 1, 0, none⟩ = some (.slice none 0 0) := (hb1.cell (by first | (simp; done) | omega | (simp; omega))).trans (by simp); have g1 : w1.cell? ⟨w.heap.size + 1, 1, none⟩ = some (.int .i64 0) := (hb1.cell (by first | (simp; done) | omega | (simp; omega))).trans (by simp); have f0 : w1.frozen? ⟨w.heap.size + 1, 0, none⟩ = false := (hb1.frozen (by first | (simp; done) | omega | (simp; omega))).trans (by simp); have f1 : w1.frozen? ⟨w.heap.size + 1, 1, none⟩ = false := (hb1.frozen (by first | (simp; done) | omega | (simp; omega))).trans (by simp); have hlt : w.heap.size + 1 < w1.heap.size := (by have := hb1.size; simp at this; omega))
      have hbw : Below w.heap.size w w1 := Below.next (((Below.refl _ _).alloc (Nat.le_refl _) _).alloc (by first | (simp; done) | omega | (simp; omega)) _) hb1 (by first | (simp; done) | omega | (simp; omega))
      refine bodyPost_ret (v := .tuple #[.agg #[.slice none 0 0, .int .i64 0], .int .i64 2]) (by simp [results, Try.results28, go_sem, g0, g1, hlt]) rfl ⟨none, 0, rfl, Nat.le_refl _, SL.nil, ?_⟩
      repeat' (first | exact Below.refl _ _ | assumption | refine Below.drew ?_ | refine below_drewN ?_ _ | refine Below.setCell ?_ (by first | (simp; done) | omega | (simp; omega)) _ | refine Below.alloc ?_ (by first | exact Nat.le_refl _ | omega | (simp; done) | (simp; omega)) _)
    · obtain ⟨m0, m1, m2⟩ := (mayS_iff t).1 hm
      obtain ⟨n, hn⟩ : ∃ n, n = crashN t k := ⟨_, rfl⟩
      obtain ⟨s, hs⟩ : ∃ s, s = t.1.take n := ⟨_, rfl⟩
      have hS : crashS t k = ((s, (n : Int)), 0) := by unfold crashS; rw [if_pos hm, if_neg (by omega), ← hn, ← hs]
      rw [hS]
      clear hS
      have hnl : n ≤ t.1.length := by rw [hn]; unfold crashN; split <;> omega
      have hnv : (n : Int) = t.2 + min k (t.1.length - t.2) := by rw [hn]; unfold crashN; split <;> omega
      have hsl : n = s.length := by rw [hs, List.length_take]; omega
      have Hm := Lib.hid hm
      have Hs := Lib.hid hs
      have hwk : IntKind.i64.wrap ((t.1.length : Int) - t.2) = (t.1.length : Int) - t.2 := by simp [IntKind.wrap, IntKind.bits]; omega
      have b1 : decide (k < 0) = false := by simp; omega
      have Hnv := Lib.hid hnv
      clear hm hn hs
      go_enter Try.func28, Try.ntmps28
      go_wp2_with (go_at_call 36; refine (tapeOpen_yes _ A t c (Ha.out.bbelow ?_) Hm.out).mono ?_; (repeat' (first | exact Below.refl _ _ | assumption | refine Below.drew ?_ | refine below_drewN ?_ _ | refine Below.alloc ?_ (by first | exact Nat.le_refl _ | omega | (simp; done) | (simp; omega)) _)); rintro e w1 ⟨A1, c1, rfl, hcap, hs1, hb1⟩; have g0 : w1.cell? ⟨w.heap.size + 1, 0, none⟩ = some (.slice none 0 0) := (hb1.cell (by first | (simp; done) | omega | (simp; omega))).trans (by simp); have g1 : w1.cell? ⟨w.heap.size + 1, 1, none⟩ = some (.int .i64 0) := (hb1.cell (by first | (simp; done) | omega | (simp; omega))).trans (by simp); have f0 : w1.frozen? ⟨w.heap.size + 1, 0, none⟩ = false := (hb1.frozen (by first | (simp; done) | omega | (simp; omega))).trans (by simp); have f1 : w1.frozen? ⟨w.heap.size + 1, 1, none⟩ = false := (hb1.frozen (by first | (simp; done) | omega | (simp; omega))).trans (by simp); have hlt : w.heap.size + 1 < w1.heap.size := (by have := hb1.size; simp at this; omega))
      all_goals
        have hbw : Below w.heap.size w w1 := Below.next (((Below.refl _ _).alloc (Nat.le_refl _) _).alloc (by first | (simp; done) | omega | (simp; omega)) _) hb1 (by first | (simp; done) | omega | (simp; omega))
        first | rw [show t.2 + ((t.1.length : Int) - t.2) = (s.length : Int) by omega] | rw [show t.2 + k = (s.length : Int) by omega]
        simp only [Int.toNat_natCast]
        refine bodyPost_ret (v := .tuple #[.agg #[.slice A1 s.length s.length, .int .i64 s.length], .int .i64 0]) (by simp [results, Try.results28, go_sem, g0, g1, hlt]) rfl ⟨A1, s.length, rfl, Nat.le_refl _, ?_, ?_⟩
        · rw [Hs.out]
          refine SL.top (SL.blo (SL.bsame (hs1.blo (m := w.heap.size + 2) (by first | (simp; done) | omega | (simp; omega))) ?_) (by first | (simp; done) | omega | (simp; omega))) _
          repeat' (first | exact Same.refl _ _ | refine Same.alloc ?_ _ | refine Same.drew ?_ | refine Same.drewN ?_ _ | refine Same.setCell ?_ (fun hq => by simp only [From] at hq; first | omega | (simp at hq; done) | (simp at hq; omega)) _)
        · repeat' (first | exact Below.refl _ _ | assumption | refine Below.drew ?_ | refine below_drewN ?_ _ | refine Below.setCell ?_ (by first | (simp; done) | omega | (simp; omega)) _ | refine Below.alloc ?_ (by first | exact Nat.le_refl _ | omega | (simp; done) | (simp; omega)) _)
  · rw [show crashS t k = (([], 0), 6) by unfold crashS; rw [if_neg (by simp [hm])]]
    have Hm := Lib.hid hm
    clear hm
    go_enter Try.func28, Try.ntmps28
    go_wp2_with (go_at_call 36; refine (tapeOpen_no _ A t c Hm.out).mono ?_; rintro e w1 ⟨A1, c1, rfl, hcap, hs1, hb1⟩; have g0 : w1.cell? ⟨w.heap.size + 1, 0, none⟩ = some (.slice none 0 0) := (hb1.cell (by first | (simp; done) | omega | (simp; omega))).trans (by simp); have g1 : w1.cell? ⟨w.heap.size + 1, 1, none⟩ = some (.int .i64 0) := (hb1.cell (by first | (simp; done) | omega | (simp; omega))).trans (by simp); have f0 : w1.frozen? ⟨w.heap.size + 1, 0, none⟩ = false := (hb1.frozen (by first | (simp; done) | omega | (simp; omega))).trans (by simp); have f1 : w1.frozen? ⟨w.heap.size + 1, 1, none⟩ = false := (hb1.frozen (by first | (simp; done) | omega | (simp; omega))).trans (by simp); have hlt : w.heap.size + 1 < w1.heap.size := (by have := hb1.size; simp at this; omega))
    have hbw : Below w.heap.size w w1 := Below.next (((Below.refl _ _).alloc (Nat.le_refl _) _).alloc (by first | (simp; done) | omega | (simp; omega)) _) hb1 (by first | (simp; done) | omega | (simp; omega))
    refine bodyPost_ret (v := .tuple #[.agg #[.slice none 0 0, .int .i64 0], .int .i64 6]) (by simp [results, Try.results28, go_sem, g0, g1, hlt]) rfl ⟨none, 0, rfl, Nat.le_refl _, SL.nil, ?_⟩
    repeat' (first | exact Below.refl _ _ | assumption | refine Below.drew ?_ | refine below_drewN ?_ _ | refine Below.setCell ?_ (by first | (simp; done) | omega | (simp; omega)) _ | refine Below.alloc ?_ (by first | exact Nat.le_refl _ | omega | (simp; done) | (simp; omega)) _)
set_option maxRecDepth 100000 in
set_option maxHeartbeats 1000000 in
theorem tapeCrashed_ok (w : World) (A : Option Addr) (t : Tp) (c : Nat) (k : Int) (hc : t.1.length ≤ c) (ha : Bs All w A t.1) :
    Calls Try.prog 29 #[.agg #[.slice A t.1.length c, .int .i64 t.2], .int .i64 k] w (RetTapeV w (crashS t k).1 (.int .i64 (crashS t k).2)) := by
  have Ha := Lib.hid ha
  clear ha
  rcases Bool.eq_false_or_eq_true (mayS t) with hm | hm
  · rcases (by omega : k < 0 ∨ 0 ≤ k) with hk | hk
    · have hS : crashS t k = (([], 0), 2) := by unfold crashS; rw [if_pos hm, if_pos hk]
      rw [hS]
      clear hS
      have Hm := Lib.hid hm
      clear hm
      go_enter Try.func29, Try.ntmps29
      go_wp2_with (go_at_call 37; refine (tapeMay_ok _ A t c).mono ?_; rintro e w1 ⟨rfl, hb1⟩; have hm := Hm.out; have g0 : w1.cell? ⟨w.heap.size + 1, 0, none⟩ = some (.slice none 0 0) := (hb1.cell (by first | (simp; done) | omega | (simp; omega))).trans (by simp); have g1 : w1.cell? ⟨w.heap.size + 1, 1, none⟩ = some (.int .i64 0) := (hb1.cell (by first | (simp; done) | omega | (simp; omega))).trans (by simp); have f0 : w1.frozen? ⟨w.heap.size + 1, 0, none⟩ = false := (hb1.frozen (by first | (simp; done) | omega | (simp; omega))).trans (by simp); have f1 : w1.frozen? ⟨w.heap.size + 1, 1, none⟩ = false := (hb1.frozen (by first | (simp; done) | omega | (simp; omega))).trans (by simp); have hlt : w.heap.size + 1 < w1.heap.size := (by have := hb1.size; simp at this; omega))
      have hbw : Below w.heap.size w w1 := Below.next (((Below.refl _ _).alloc (Nat.le_refl _) _).alloc (by first | (simp; done) | omega | (simp; omega)) _) hb1 (by first | (simp; done) | omega | (simp; omega))
      refine bodyPost_ret (v := .tuple #[.agg #[.slice none 0 0, .int .i64 0], .int .i64 2]) (by simp [results, Try.results29, go_sem, g0, g1, hlt]) rfl ⟨none, 0, rfl, Nat.le_refl _, SL.nil, ?_⟩
      repeat' (first | exact Below.refl _ _ | assumption | refine Below.drew ?_ | refine below_drewN ?_ _ | refine Below.setCell ?_ (by first | (simp; done) | omega | (simp; omega)) _ | refine Below.alloc ?_ (by first | exact Nat.le_refl _ | omega | (simp; done) | (simp; omega)) _)
    · obtain ⟨m0, m1, m2⟩ := (mayS_iff t).1 hm
      obtain ⟨n, hn⟩ : ∃ n, n = crashN t k := ⟨_, rfl⟩
      obtain ⟨s, hs⟩ : ∃ s, s = t.1.take n := ⟨_, rfl⟩
      have hS : crashS t k = ((s, (n : Int)), 0) := by unfold crashS; rw [if_pos hm, if_neg (by omega), ← hn, ← hs]
      rw [hS]
      clear hS
      have hnl : n ≤ t.1.length := by rw [hn]; unfold crashN; split <;> omega
      have hsl : n = s.length := by rw [hs, List.length_take]; omega
      have hwk : IntKind.i64.wrap ((t.1.length : Int) - t.2) = (t.1.length : Int) - t.2 := by simp [IntKind.wrap, IntKind.bits]; omega
      have b1 : decide (k < 0) = false := by simp; omega
      have hbig : s.length ≤ big := by unfold big; omega
      have Hm := Lib.hid hm
      have Hs := Lib.hid hs
      have Hb := Lib.hid hbig
      rcases (by omega : k < (t.1.length : Int) - t.2 ∨ ¬ (k < (t.1.length : Int) - t.2)) with hq | hq
      all_goals
        have hnv : (n : Int) = if k < (t.1.length : Int) - t.2 then t.2 + k else (t.1.length : Int) := by rw [hn]; unfold crashN; split <;> omega
        first | rw [if_pos hq] at hnv | rw [if_neg hq] at hnv
        have hwl : IntKind.i64.wrap (t.2 + k) = t.2 + k ∨ ¬ k < (t.1.length : Int) - t.2 := by simp only [IntKind.wrap]; first | (right; exact hq) | (left; simp [IntKind.bits]; omega)
        have b2 : decide (k < (t.1.length : Int) - t.2) = true ∨ decide (k < (t.1.length : Int) - t.2) = false := by first | (left; exact decide_eq_true hq) | (right; exact decide_eq_false hq)
        first | (rcases hwl with hwl | hwl; rotate_left; exact absurd hq hwl) | clear hwl
        first | (rcases b2 with b2 | b2; rotate_left; (exfalso; revert b2; simp; omega)) | (rcases b2 with b2 | b2; (exfalso; revert b2; simp; omega))
        clear hm hn hs hbig
        subst hsl
        go_enter Try.func29, Try.ntmps29
        go_wp2_with (go_at_call 37; refine (tapeMay_ok _ A t c).mono ?_; rintro e w0 ⟨rfl, hb0⟩; have hm := Hm.out; have k0 : w0.cell? ⟨w.heap.size, 0, none⟩ = some (.slice A t.1.length c) := (hb0.cell (by first | (simp; done) | omega | (simp; omega))).trans (by simp); have k1 : w0.cell? ⟨w.heap.size, 1, none⟩ = some (.int .i64 t.2) := (hb0.cell (by first | (simp; done) | omega | (simp; omega))).trans (by simp))
        have hbw0 : Below w.heap.size w w0 := Below.next (((Below.refl _ _).alloc (Nat.le_refl _) _).alloc (by first | (simp; done) | omega | (simp; omega)) _) hb0 (by first | (simp; done) | omega | (simp; omega))
        have hsz0 : w.heap.size + 2 ≤ w0.heap.size := by have := hb0.size; simp at this; omega
        first | rw [← hnv, Int.toNat_natCast] | rw [show t.1.length = s.length by omega]
        (with_reducible refine (joinedNil_cap _ A s c ?ha Hb.out).mono ?_)
        (case ha => (rw [Hs.out]; exact (Ha.out.bbelow hbw0).top _))
        rintro e w1 ⟨A1, c1, rfl, hcap, hs1, hb1⟩
        have g0 : w1.cell? ⟨w.heap.size + 1, 0, none⟩ = some (.slice none 0 0) := (hb1.cell (by simp; omega)).trans ((hb0.cell (by first | (simp; done) | omega | (simp; omega))).trans (by simp))
        have g1 : w1.cell? ⟨w.heap.size + 1, 1, none⟩ = some (.int .i64 0) := (hb1.cell (by simp; omega)).trans ((hb0.cell (by first | (simp; done) | omega | (simp; omega))).trans (by simp))
        have f0 : w1.frozen? ⟨w.heap.size + 1, 0, none⟩ = false := (hb1.frozen (by simp; omega)).trans ((hb0.frozen (by first | (simp; done) | omega | (simp; omega))).trans (by simp))
        have f1 : w1.frozen? ⟨w.heap.size + 1, 1, none⟩ = false := (hb1.frozen (by simp; omega)).trans ((hb0.frozen (by first | (simp; done) | omega | (simp; omega))).trans (by simp))
        go_wp2
        have hbw1 : Below w.heap.size w w1 := hbw0.next hb1 (by first | (simp; done) | omega | (simp; omega))
        first | rw [← hnv] | rw [show (t.1.length : Int) = (s.length : Int) by omega]
        refine bodyPost_ret (v := .tuple #[.agg #[.slice A1 s.length c1, .int .i64 s.length], .int .i64 0]) (by simp [results, Try.results29, go_sem, g0, g1]) rfl ⟨A1, c1, rfl, hcap, ?_, ?_⟩
        · refine SL.blo (SL.bsame (hs1.blo (m := w.heap.size + 2) (by first | (simp; done) | omega | (simp; omega))) ?_) (by omega)
          repeat' (first | exact Same.refl _ _ | refine Same.alloc ?_ _ | refine Same.drew ?_ | refine Same.drewN ?_ _ | refine Same.setCell ?_ (fun hq => by simp only [From] at hq; first | omega | (simp at hq; done) | (simp at hq; omega)) _)
        · repeat' (first | exact Below.refl _ _ | assumption | refine Below.drew ?_ | refine below_drewN ?_ _ | refine Below.setCell ?_ (by first | (simp; done) | omega | (simp; omega)) _ | refine Below.alloc ?_ (by first | exact Nat.le_refl _ | omega | (simp; done) | (simp; omega)) _)
  · rw [show crashS t k = (([], 0), 6) by unfold crashS; rw [if_neg (by simp [hm])]]
    have Hm := Lib.hid hm
    clear hm
    go_enter Try.func29, Try.ntmps29
    go_wp2_with (go_at_call 37; refine (tapeMay_ok _ A t c).mono ?_; rintro e w1 ⟨rfl, hb1⟩; have hm := Hm.out; have g0 : w1.cell? ⟨w.heap.size + 1, 0, none⟩ = some (.slice none 0 0) := (hb1.cell (by first | (simp; done) | omega | (simp; omega))).trans (by simp); have g1 : w1.cell? ⟨w.heap.size + 1, 1, none⟩ = some (.int .i64 0) := (hb1.cell (by first | (simp; done) | omega | (simp; omega))).trans (by simp); have f0 : w1.frozen? ⟨w.heap.size + 1, 0, none⟩ = false := (hb1.frozen (by first | (simp; done) | omega | (simp; omega))).trans (by simp); have f1 : w1.frozen? ⟨w.heap.size + 1, 1, none⟩ = false := (hb1.frozen (by first | (simp; done) | omega | (simp; omega))).trans (by simp); have hlt : w.heap.size + 1 < w1.heap.size := (by have := hb1.size; simp at this; omega))
    have hbw : Below w.heap.size w w1 := Below.next (((Below.refl _ _).alloc (Nat.le_refl _) _).alloc (by first | (simp; done) | omega | (simp; omega)) _) hb1 (by first | (simp; done) | omega | (simp; omega))
    refine bodyPost_ret (v := .tuple #[.agg #[.slice none 0 0, .int .i64 0], .int .i64 6]) (by simp [results, Try.results29, go_sem, g0, g1, hlt]) rfl ⟨none, 0, rfl, Nat.le_refl _, SL.nil, ?_⟩
    repeat' (first | exact Below.refl _ _ | assumption | refine Below.drew ?_ | refine below_drewN ?_ _ | refine Below.setCell ?_ (by first | (simp; done) | omega | (simp; omega)) _ | refine Below.alloc ?_ (by first | exact Nat.le_refl _ | omega | (simp; done) | (simp; omega)) _)
set_option maxRecDepth 100000 in
set_option maxHeartbeats 1000000 in
theorem tapeCrashes_walk (w : World) {cl : List Value} {t : Tp} {k : Int} (h : TapeR All w cl t) (_ : (Lit.int .i64 k).wf = true) :
    Calls Try.prog 10 #[.agg cl.toArray, .int .i64 k] w (RetV w (.bool true)) := by
  obtain ⟨A, c, rfl, hcap, ha, h1⟩ := h
  have Ha := Lib.hid ha
  have Hc := Lib.hid hcap
  clear ha hcap
  obtain ⟨r, hr⟩ : ∃ r, r = (crashS t k).1 := ⟨_, rfl⟩
  obtain ⟨v, hv⟩ : ∃ v : Int, v = (crashS t k).2 := ⟨_, rfl⟩
  have Hp := Lib.hid (show ∀ (W : World) (A : Option Addr) (c : Nat), Bs All W A t.1 → t.1.length ≤ c → Calls Try.prog 28 #[.agg #[.slice A t.1.length c, .int .i64 t.2], .int .i64 k] W (RetTapeV W r (.int .i64 v)) from fun W A c h hc => by rw [hr, hv]; exact tapeCrash_ok W A t c k hc h)
  have Hq := Lib.hid (show ∀ (W : World) (A : Option Addr) (c : Nat), Bs All W A t.1 → t.1.length ≤ c → Calls Try.prog 29 #[.agg #[.slice A t.1.length c, .int .i64 t.2], .int .i64 k] W (RetTapeV W r (.int .i64 v)) from fun W A c h hc => by rw [hr, hv]; exact tapeCrashed_ok W A t c k hc h)
  clear hr hv
  go_enter Try.func10, Try.ntmps10
  go_wp2_with fail
  refine (tapes_ok _ A t c (Ha.out.bbelow ?hx) h1).mono ?_
  case hx => repeat' (first | exact Below.refl _ _ | assumption | refine Below.drew ?_ | refine below_drewN ?_ _ | refine Below.alloc ?_ (by first | exact Nat.le_refl _ | omega | (simp; done) | (simp; omega)) _)
  rintro e w1 ⟨A1, c1, rfl, hcap1, hs1, hb1⟩
  have hbw1 : Below w.heap.size w w1 := Below.next ((Below.refl _ _).alloc (Nat.le_refl _) _) hb1 (by first | (simp; done) | omega | (simp; omega))
  have x1 := (hb1.block w.heap.size (by first | (simp; done) | omega | (simp; omega))).trans (box_new w _ _)
  have z1 : w.heap.size < w1.heap.size := by have := hb1.size; simp at this; omega
  clear hb1
  go_wp2_with fail
  refine (Hp.out _ A1 c1 (hs1.bz.bbelow ((Below.refl _ _).alloc (Nat.le_refl _) _)) hcap1).mono ?_
  rintro e w2 ⟨A2, c2, rfl, hcap2, hs2, hb2⟩
  have hbw2 : Below w1.heap.size w1 w2 := Below.next ((Below.refl _ _).alloc (Nat.le_refl _) _) hb2 (by first | (simp; done) | omega | (simp; omega))
  have y2 := (hb2.block w1.heap.size (by first | (simp; done) | omega | (simp; omega))).trans (box_new w1 _ _)
  have x2 := (hbw2.block w.heap.size z1).trans x1
  have z2 : w1.heap.size < w2.heap.size := by have := hb2.size; simp at this; omega
  have z2' : w.heap.size < w2.heap.size := by omega
  clear hb2 x1
  obtain ⟨g0, g1, _, _⟩ := box2 x2
  have X2 := Lib.hid x2
  have Y2 := Lib.hid y2
  clear x2 y2
  go_wp2_with fail
  clear g0 g1
  refine (Hq.out _ A c (Ha.out.bbelow ?hx) Hc.out).mono ?_
  case hx => exact (hbw1.next hbw2 (by omega)).alloc (by omega) _
  rintro e w3 ⟨A3, c3, rfl, hcap3, hs3, hb3⟩
  have hbw3 : Below w2.heap.size w2 w3 := Below.next ((Below.refl _ _).alloc (Nat.le_refl _) _) hb3 (by first | (simp; done) | omega | (simp; omega))
  have Z3 := Lib.hid ((hb3.block w2.heap.size (by first | (simp; done) | omega | (simp; omega))).trans (box_new w2 _ _))
  have X3 := Lib.hid ((hbw3.block w.heap.size z2').trans X2.out)
  have Y3 := Lib.hid ((hbw3.block w1.heap.size z2).trans Y2.out)
  have z3 : w2.heap.size < w3.heap.size := by have := hb3.size; simp at this; omega
  clear hb3
  obtain ⟨g0, g1, _, _⟩ := box2 Z3.out
  go_wp2_with fail
  clear g0 g1
  have hW3 : Below w3.heap.size w3 (w3.alloc (.cells #[.slice A3 r.1.length c3, .int .i64 r.2] 36)) := (Below.refl _ _).alloc (Nat.le_refl _) _
  refine (sameTape_ok _ A2 A3 r c2 c3 (hs2.bz.bbelow (hbw3.next hW3 hbw3.size)) (hs3.bz.bbelow hW3)).mono ?_
  rintro e w4 ⟨rfl, hb4⟩
  have hbw4 : Below w3.heap.size w3 w4 := hW3.next hb4 hW3.size
  have X4 := Lib.hid ((hbw4.block w.heap.size (by omega)).trans X3.out)
  have Y4 := Lib.hid ((hbw4.block w1.heap.size (by omega)).trans Y3.out)
  clear hb4
  obtain ⟨g0, g1, _, _⟩ := box2 X4.out
  obtain ⟨g2, g3, _, _⟩ := box2 Y4.out
  go_wp2_with fail
  clear g0 g1 g2 g3
  have hb24 : Below w2.heap.size w2 w4 := hbw3.next hbw4 hbw3.size
  have hb14 : Below w1.heap.size w1 w4 := hbw2.next hb24 hbw2.size
  have hb04 : Below w.heap.size w w4 := hbw1.next hb14 hbw1.size
  refine (sameTape_ok _ A1 A t c1 c (hs1.bz.bbelow hb14) (Ha.out.bbelow hb04)).mono ?_
  rintro e w5 ⟨rfl, hb5⟩
  go_wp2
  go_ret
  exact ⟨by simp, hb04.next hb5 hb04.size⟩
end Go.Proofs.Ytdhbnhjgbcipkaa
