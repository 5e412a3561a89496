/- Walks: pairOf of the laws; the law TreePuts. -/
import Derived.Test.YthhcdibimnifaaaTreePut
namespace Go.Proofs.Ythhcdibimnifaaa
open Go.RowKit

set_option maxHeartbeats 400000 in
theorem pairOf_ok (w : World) (A B : Option Addr) (p : Pr) (c d : Nat) (ha : Bs All w A p.1) (hb : Bs All w B p.2) (h1 : p.1.length ≤ big) (h2 : p.2.length ≤ big) :
    Calls Try.prog 34 #[.agg #[.slice A p.1.length c, .slice B p.2.length d]] w (RetPair w p) := by
  have Ha := Lib.hid ha
  have Hb := Lib.hid hb
  clear ha hb
  go_enter Try.func34, Try.ntmps34
  go_wp2_with fail
  go_region_held3 (fun w' => w'.cell? ⟨w.heap.size, 0, none⟩ = some (.slice A p.1.length c) ∧ w'.cell? ⟨w.heap.size, 1, none⟩ = some (.slice B p.2.length d))
    (first
      | go_keep
      | (go_split_ands; refine ⟨(hb1.cell (by first | (simp; done) | omega | (simp; omega))).trans (by assumption), (hb1.cell (by first | (simp; done) | omega | (simp; omega))).trans (by assumption)⟩)
      | (go_split_ands; refine ⟨(hb2.cell (by have hq1 := hb1.size; simp at hq1 ⊢; omega)).trans (by assumption), (hb2.cell (by have hq1 := hb1.size; simp at hq1 ⊢; omega)).trans (by assumption)⟩))
    (first
      | (go_at_call 25; (with_reducible refine (octets_ok _ A p.1 c ?ha h1).mono ?_); (case ha => (refine Ha.out.bbelow ?_; repeat' (first | exact Below.refl _ _ | assumption | refine Below.drew ?_ | refine below_drewN ?_ _ | refine Below.alloc ?_ (by first | exact Nat.le_refl _ | omega | (simp; done) | (simp; omega)) _))); rintro e w1 ⟨A1, c1, rfl, hs1, hb1⟩)
      | (go_at_call 25; (with_reducible refine (octets_ok _ B p.2 d ?ha h2).mono ?_); (case ha => (refine Hb.out.bbelow (Below.next ?_ hb1 (by first | (simp; done) | omega | (simp; omega))); repeat' (first | exact Below.refl _ _ | assumption | refine Below.drew ?_ | refine below_drewN ?_ _ | refine Below.alloc ?_ (by first | exact Nat.le_refl _ | omega | (simp; done) | (simp; omega)) _))); rintro e w2 ⟨A2, c2, rfl, hs2, hb2⟩; have g0 : w2.cell? ⟨w.heap.size + 1, 0, none⟩ = some (.slice none 0 0) := (hb2.cell (by have hq1 := hb1.size; simp at hq1 ⊢; omega)).trans ((hb1.cell (by first | (simp; done) | omega | (simp; omega))).trans (by simp)); have g1 : w2.cell? ⟨w.heap.size + 1, 1, none⟩ = some (.slice none 0 0) := (hb2.cell (by have hq1 := hb1.size; simp at hq1 ⊢; omega)).trans ((hb1.cell (by first | (simp; done) | omega | (simp; omega))).trans (by simp)); have f0 : w2.frozen? ⟨w.heap.size + 1, 0, none⟩ = false := (hb2.frozen (by have hq1 := hb1.size; simp at hq1 ⊢; omega)).trans ((hb1.frozen (by first | (simp; done) | omega | (simp; omega))).trans (by simp)); have f1 : w2.frozen? ⟨w.heap.size + 1, 1, none⟩ = false := (hb2.frozen (by have hq1 := hb1.size; simp at hq1 ⊢; omega)).trans ((hb1.frozen (by first | (simp; done) | omega | (simp; omega))).trans (by simp))))
  all_goals
    go_wp2
    refine bodyPost_ret (v := .agg #[.slice A1 p.1.length c1, .slice A2 p.2.length c2]) (by simp [results, Try.results34, go_sem, g0, g1]) rfl ⟨A1, c1, A2, c2, rfl, ?_, ?_, ?_⟩
    · exact ((hs1.bbelow hb2).bsame (((Same.refl _ _).setCell (fun hq => by simp only [From] at hq; first | omega | (simp at hq; done) | (simp at hq; omega)) _).setCell (fun hq => by simp only [From] at hq; first | omega | (simp at hq; done) | (simp at hq; omega)) _)).blo (by first | (simp; done) | omega | (simp; omega))
    · exact (hs2.bsame (((Same.refl _ _).setCell (fun hq => by have hq1 := hb1.size; simp [From] at hq hq1; omega) _).setCell (fun hq => by have hq1 := hb1.size; simp [From] at hq hq1; omega) _)).blo (by have hq1 := hb1.size; simp at hq1 ⊢; omega)
    · refine Below.setCell (Below.setCell (Below.next (Below.next ?_ hb1 (by first | (simp; done) | omega | (simp; omega))) hb2 (by have hq1 := hb1.size; simp at hq1 ⊢; omega)) (by first | (simp; done) | omega | (simp; omega)) _) (by first | (simp; done) | omega | (simp; omega)) _
      repeat' (first | exact Below.refl _ _ | assumption | refine Below.drew ?_ | refine below_drewN ?_ _ | refine Below.alloc ?_ (by first | exact Nat.le_refl _ | omega | (simp; done) | (simp; omega)) _)


set_option maxRecDepth 100000 in
set_option maxHeartbeats 1000000 in
theorem treePuts_walk (w : World) {A : Option Addr} {l : List Pr} {c : Nat} (h : Ps All w A l ∧ l.length * 48 ≤ 140737488355328) {cl : List Value} {p : Pr} (h' : PairR All w cl p) :
    Calls Try.prog 6 #[.slice A l.length c, .agg cl.toArray] w (RetV w (.bool true)) := by
  obtain ⟨P, pc, Q, pd, rfl, hp1, hp2, hp3, hp4⟩ := h'
  have hlen : l.length ≤ big := by have := h.2; unfold big; omega
  have Hlen := Lib.hid hlen
  have Hlr := Lib.hid (show (putS l p).1.length ≤ big by have h1 := putS_len l p; have h2 := h.2; unfold big; omega)
  have H := Lib.hid h
  have Hp1 := Lib.hid hp1
  have Hp2 := Lib.hid hp2
  clear h hlen hp1 hp2
  have hz0 : w.heap.size < w.heap.size + 1 := by omega
  have Hbox := Lib.hid (show ∀ W, Below (w.heap.size + 1) (w.alloc (.cells #[.slice P p.1.length pc, .slice Q p.2.length pd] 39)) W → W.cell? ⟨w.heap.size, 0, none⟩ = some (.slice P p.1.length pc) ∧ W.cell? ⟨w.heap.size, 1, none⟩ = some (.slice Q p.2.length pd) ∧ Below w.heap.size w W ∧ w.heap.size + 1 ≤ W.heap.size from fun W hW => by
    obtain ⟨g0, g1, _, _⟩ := box2 ((hW.block _ (by omega)).trans (box_new w _ _))
    exact ⟨g0, g1, ((Below.refl w.heap.size w).alloc (Nat.le_refl _) _).trans (hW.mono (by omega)), by simpa using hW.size⟩)
  go_enter Try.func6, Try.ntmps6
  go_wp2_with (first
    | (go_at_call 24; go_in)
    | (go_at_call 87; refine (pairsCopy_cap _ A l c (H.out.1.below pairR_stays ?_) H.out.2).mono ?_; (repeat' (first | exact Below.refl _ _ | assumption | refine Below.drew ?_ | refine below_drewN ?_ _ | refine Below.alloc ?_ (by first | exact Nat.le_refl _ | omega | (simp; done) | (simp; omega)) _)); rintro e w1 ⟨A1, c2, rfl, hcap, hs1, hb1'⟩; have hb1 : Below (w.heap.size + 1) (w.alloc (.cells #[.slice P p.1.length pc, .slice Q p.2.length pd] 39)) w1 := hb1'.mono (by first | (simp; done) | omega | (simp; omega)); obtain ⟨g0, g1, hw1, hz1⟩ := Hbox.out w1 hb1; have Hcap := Lib.hid hcap; clear hcap)
    | (go_at_call 34; refine (pairOf_ok _ P Q p pc pd (Hp1.out.bbelow hw1) (Hp2.out.bbelow hw1) hp3 hp4).mono ?_; rintro e w2 ⟨P2, pc2, Q2, pd2, rfl, hq1, hq2, hb2⟩; have hb12 := hb1.next hb2 hz1; obtain ⟨g2, g3, hw2, hz2⟩ := Hbox.out w2 hb12)
    | (go_at_call 33; refine (treePut_ok _ A1 l c2 P2 Q2 p pc2 pd2 ((hs1.z pairR_stays).below pairR_stays hb2) hq1.bz hq2.bz).mono ?_; rintro e w4 ⟨A4, c5, rfl, hs4, hb4⟩; have hb14 := hb12.next hb4 hz2; obtain ⟨g4, g5, hw4, hz4⟩ := Hbox.out w4 hb14)
    | (go_at_call 35; refine (putOf_ok _ A l c P Q p pc pd (H.out.1.below pairR_stays hw4) (Hp1.out.bbelow hw4) (Hp2.out.bbelow hw4)).mono ?_; rintro e w5 ⟨A5, c6, rfl, hs5, hb5⟩; have hb15 := hb14.next hb5 hz4; obtain ⟨g6, g7, hw5, hz5⟩ := Hbox.out w5 hb15)
    | (go_at_call 30; (with_reducible refine (samePairs_ok _ A4 A5 (putS l p).1 c5 c6 ?hx ?hy Hlr.out).mono ?_); (case hx => exact (hs4.z pairR_stays).below pairR_stays hb5); (case hy => exact hs5.z pairR_stays); rintro e w6 ⟨rfl, hb6⟩; have hb16 := hb15.next hb6 hz5; obtain ⟨g8, g9, hw6, hz6⟩ := Hbox.out w6 hb16)
    | (go_at_call 30; (with_reducible refine (samePairs_ok _ A1 A l c2 c ?hx ?hy Hlen.out).mono ?_); (case hx => exact ((((hs1.z pairR_stays).below pairR_stays hb2).below pairR_stays hb4).below pairR_stays hb5).below pairR_stays hb6); (case hy => exact H.out.1.below pairR_stays hw6); rintro e w7 ⟨rfl, hb7⟩; have hb17 := hb16.next hb7 hz6; obtain ⟨_, _, hw7, _⟩ := Hbox.out w7 hb17))
  go_ret
  exact ⟨by simp, hw7⟩
end Go.Proofs.Ythhcdibimnifaaa
