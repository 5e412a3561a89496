/- Walks: requests copied, and held against each other. -/
import Derived.Test.YtddppmhpdgecgaaDoorRq
namespace Go.Proofs.YtddppmhpdgecgaaDoor
open Go.RowKit
set_option linter.unusedVariables false
set_option linter.unusedSimpArgs false

/-- The call returns a request of its own memory. -/
def RetRq (w : World) (r : Rq) (e : Ending) (w' : World) : Prop :=
  ∃ A a B b C c D d, e = .returned (.agg #[.int .i64 r.kind, .slice A r.name.length a, .slice B r.key.length b, .slice C r.last.length c, .slice D r.value.length d]) ∧ Bs (From w.heap.size) w' A r.name ∧ Bs (From w.heap.size) w' B r.key ∧ Bs (From w.heap.size) w' C r.last ∧ Bs (From w.heap.size) w' D r.value ∧ Below w.heap.size w w'
theorem two_rq (w : World) (a b : Obj) : ((w.alloc a).alloc b).heap[w.heap.size]? = some a ∧ ((w.alloc a).alloc b).heap[w.heap.size + 1]? = some b ∧ ((w.alloc a).alloc b).heap.size = w.heap.size + 2 ∧ Below w.heap.size w ((w.alloc a).alloc b) := by
  refine ⟨?_, ?_, by simp, ((Below.refl _ _).alloc (Nat.le_refl _) _).alloc (by simp) _⟩
  · rw [heap_alloc_old _ _ (by simp), heap_alloc_new]
  · have := heap_alloc_new (w.alloc a) b
    simpa using this
set_option maxRecDepth 100000 in
set_option maxHeartbeats 4000000 in
theorem requests_ok (w : World) (A B C D : Option Addr) (r : Rq) (a b c d : Nat) (hA : Bs All w A r.name) (hB : Bs All w B r.key) (hC : Bs All w C r.last) (hD : Bs All w D r.value) (h1 : r.name.length ≤ big) (h2 : r.key.length ≤ big) (h3 : r.last.length ≤ big) (h4 : r.value.length ≤ big) :
    Calls Tryd.prog 22 #[.agg #[.int .i64 r.kind, .slice A r.name.length a, .slice B r.key.length b, .slice C r.last.length c, .slice D r.value.length d]] w (RetRq w r) := by
  have HA := Lib.hid hA
  have HB := Lib.hid hB
  have HC := Lib.hid hC
  have HD := Lib.hid hD
  clear hA hB hC hD
  have Hbox := Lib.hid (show ∀ W, Below (w.heap.size + 2) ((w.alloc (.cells #[.int .i64 r.kind, .slice A r.name.length a, .slice B r.key.length b, .slice C r.last.length c, .slice D r.value.length d] 24)).alloc (.cells #[.int .i64 0, .slice none 0 0, .slice none 0 0, .slice none 0 0, .slice none 0 0] 24)) W → (W.cell? ⟨w.heap.size, 0, none⟩ = some (.int .i64 r.kind) ∧ W.cell? ⟨w.heap.size, 1, none⟩ = some (.slice A r.name.length a) ∧ W.cell? ⟨w.heap.size, 2, none⟩ = some (.slice B r.key.length b) ∧ W.cell? ⟨w.heap.size, 3, none⟩ = some (.slice C r.last.length c) ∧ W.cell? ⟨w.heap.size, 4, none⟩ = some (.slice D r.value.length d)) ∧ (W.cell? ⟨w.heap.size + 1, 0, none⟩ = some (.int .i64 0) ∧ W.cell? ⟨w.heap.size + 1, 1, none⟩ = some (.slice none 0 0) ∧ W.cell? ⟨w.heap.size + 1, 2, none⟩ = some (.slice none 0 0) ∧ W.cell? ⟨w.heap.size + 1, 3, none⟩ = some (.slice none 0 0) ∧ W.cell? ⟨w.heap.size + 1, 4, none⟩ = some (.slice none 0 0)) ∧ (W.frozen? ⟨w.heap.size + 1, 0, none⟩ = false ∧ W.frozen? ⟨w.heap.size + 1, 1, none⟩ = false ∧ W.frozen? ⟨w.heap.size + 1, 2, none⟩ = false ∧ W.frozen? ⟨w.heap.size + 1, 3, none⟩ = false ∧ W.frozen? ⟨w.heap.size + 1, 4, none⟩ = false) ∧ Below w.heap.size w W ∧ w.heap.size + 2 ≤ W.heap.size from fun W hW => by
    obtain ⟨hx, hy, hsz, hbl⟩ := two_rq w (.cells #[.int .i64 r.kind, .slice A r.name.length a, .slice B r.key.length b, .slice C r.last.length c, .slice D r.value.length d] 24) (.cells #[.int .i64 0, .slice none 0 0, .slice none 0 0, .slice none 0 0, .slice none 0 0] 24)
    obtain ⟨q, _⟩ := box5 ((hW.block w.heap.size (by omega)).trans hx)
    obtain ⟨q', f'⟩ := box5 ((hW.block (w.heap.size + 1) (by omega)).trans hy)
    have h := hW.size
    exact ⟨q, q', f', hbl.trans (hW.mono (by omega)), by omega⟩)
  go_enter Tryd.func22, Tryd.ntmps22
  go_wp2_with fail
  go_region_held3 (fun w' => w'.cell? ⟨w.heap.size, 0, none⟩ = some (.int .i64 r.kind) ∧ w'.cell? ⟨w.heap.size, 1, none⟩ = some (.slice A r.name.length a) ∧ w'.cell? ⟨w.heap.size, 2, none⟩ = some (.slice B r.key.length b) ∧ w'.cell? ⟨w.heap.size, 3, none⟩ = some (.slice C r.last.length c) ∧ w'.cell? ⟨w.heap.size, 4, none⟩ = some (.slice D r.value.length d))
    (first
      | go_keep
      | (refine ⟨?_, ?_, ?_, ?_, ?_⟩ <;> assumption))
    (first
      | (go_at_call 28; (with_reducible refine (octets_ok _ A r.name a ?ha h1).mono ?_); (case ha => (refine HA.out.bbelow ?_; repeat' (first | exact Below.refl _ _ | assumption | refine Below.drew ?_ | refine below_drewN ?_ _ | refine Below.alloc ?_ (by first | exact Nat.le_refl _ | omega | (simp; done) | (simp; omega)) _))); rintro e w1 ⟨A1, a1, rfl, hs1, hb1'⟩; have hb1 : Below (w.heap.size + 2) ((w.alloc (.cells #[.int .i64 r.kind, .slice A r.name.length a, .slice B r.key.length b, .slice C r.last.length c, .slice D r.value.length d] 24)).alloc (.cells #[.int .i64 0, .slice none 0 0, .slice none 0 0, .slice none 0 0, .slice none 0 0] 24)) w1 := Below.next (by repeat' (first | exact Below.refl _ _ | assumption | refine Below.drew ?_ | refine below_drewN ?_ _ | refine Below.setCell ?_ (by first | (simp; done) | omega | (simp; omega)) _ | refine Below.alloc ?_ (by first | exact Nat.le_refl _ | omega | (simp; done) | (simp; omega)) _)) hb1' (by simp); obtain ⟨⟨qa1, qb1, qc1, qd1, qe1⟩, ⟨ra1, rb1, rc1, rd1, re1⟩, ⟨fa1, fb1, fc1, fd1, fe1⟩, hw1, hz1⟩ := Hbox.out w1 hb1)
      | (go_at_call 28; (with_reducible refine (octets_ok _ B r.key b ?ha h2).mono ?_); (case ha => exact HB.out.bbelow hw1); rintro e w2 ⟨A2, a2, rfl, hs2, hb2'⟩; have hb2 : Below (w.heap.size + 2) ((w.alloc (.cells #[.int .i64 r.kind, .slice A r.name.length a, .slice B r.key.length b, .slice C r.last.length c, .slice D r.value.length d] 24)).alloc (.cells #[.int .i64 0, .slice none 0 0, .slice none 0 0, .slice none 0 0, .slice none 0 0] 24)) w2 := hb1.next hb2' hz1; obtain ⟨⟨qa2, qb2, qc2, qd2, qe2⟩, ⟨ra2, rb2, rc2, rd2, re2⟩, ⟨fa2, fb2, fc2, fd2, fe2⟩, hw2, hz2⟩ := Hbox.out w2 hb2)
      | (go_at_call 28; (with_reducible refine (octets_ok _ C r.last c ?ha h3).mono ?_); (case ha => exact HC.out.bbelow hw2); rintro e w3 ⟨A3, a3, rfl, hs3, hb3'⟩; have hb3 : Below (w.heap.size + 2) ((w.alloc (.cells #[.int .i64 r.kind, .slice A r.name.length a, .slice B r.key.length b, .slice C r.last.length c, .slice D r.value.length d] 24)).alloc (.cells #[.int .i64 0, .slice none 0 0, .slice none 0 0, .slice none 0 0, .slice none 0 0] 24)) w3 := hb2.next hb3' hz2; obtain ⟨⟨qa3, qb3, qc3, qd3, qe3⟩, ⟨ra3, rb3, rc3, rd3, re3⟩, ⟨fa3, fb3, fc3, fd3, fe3⟩, hw3, hz3⟩ := Hbox.out w3 hb3)
      | (go_at_call 28; (with_reducible refine (octets_ok _ D r.value d ?ha h4).mono ?_); (case ha => exact HD.out.bbelow hw3); rintro e w4 ⟨A4, a4, rfl, hs4, hb4'⟩; have hb4 : Below (w.heap.size + 2) ((w.alloc (.cells #[.int .i64 r.kind, .slice A r.name.length a, .slice B r.key.length b, .slice C r.last.length c, .slice D r.value.length d] 24)).alloc (.cells #[.int .i64 0, .slice none 0 0, .slice none 0 0, .slice none 0 0, .slice none 0 0] 24)) w4 := hb3.next hb4' hz3; obtain ⟨⟨qa4, qb4, qc4, qd4, qe4⟩, ⟨ra4, rb4, rc4, rd4, re4⟩, ⟨fa4, fb4, fc4, fd4, fe4⟩, hw4, hz4⟩ := Hbox.out w4 hb4))
  all_goals
    go_wp2
    refine bodyPost_ret (v := .agg #[.int .i64 r.kind, .slice A1 r.name.length a1, .slice A2 r.key.length a2, .slice A3 r.last.length a3, .slice A4 r.value.length a4]) (by simp [results, Tryd.results22, go_sem, ra4, rb4, rc4, rd4, re4]) rfl ⟨A1, a1, A2, a2, A3, a3, A4, a4, rfl, ?_, ?_, ?_, ?_, ?_⟩
    · exact (((((hs1.blo (m := w.heap.size + 2) (by first | (simp; done) | omega | (simp; omega))).bbelow hb2').bbelow hb3').bbelow hb4').bsame ((((((Same.refl _ _).setCell (fun hq => by simp only [From] at hq; omega) _).setCell (fun hq => by simp only [From] at hq; omega) _).setCell (fun hq => by simp only [From] at hq; omega) _).setCell (fun hq => by simp only [From] at hq; omega) _).setCell (fun hq => by simp only [From] at hq; omega) _)).blo (by omega)
    · exact ((((hs2.blo (m := w.heap.size + 2) hz1).bbelow hb3').bbelow hb4').bsame ((((((Same.refl _ _).setCell (fun hq => by simp only [From] at hq; omega) _).setCell (fun hq => by simp only [From] at hq; omega) _).setCell (fun hq => by simp only [From] at hq; omega) _).setCell (fun hq => by simp only [From] at hq; omega) _).setCell (fun hq => by simp only [From] at hq; omega) _)).blo (by omega)
    · exact (((hs3.blo (m := w.heap.size + 2) hz2).bbelow hb4').bsame ((((((Same.refl _ _).setCell (fun hq => by simp only [From] at hq; omega) _).setCell (fun hq => by simp only [From] at hq; omega) _).setCell (fun hq => by simp only [From] at hq; omega) _).setCell (fun hq => by simp only [From] at hq; omega) _).setCell (fun hq => by simp only [From] at hq; omega) _)).blo (by omega)
    · exact ((hs4.blo (m := w.heap.size + 2) hz3).bsame ((((((Same.refl _ _).setCell (fun hq => by simp only [From] at hq; omega) _).setCell (fun hq => by simp only [From] at hq; omega) _).setCell (fun hq => by simp only [From] at hq; omega) _).setCell (fun hq => by simp only [From] at hq; omega) _).setCell (fun hq => by simp only [From] at hq; omega) _)).blo (by omega)
    · exact (Below.setCell (Below.setCell (Below.setCell (Below.setCell (Below.setCell hw4 (by simp only []; omega) _) (by simp only []; omega) _) (by simp only []; omega) _) (by simp only []; omega) _) (by simp only []; omega) _)
set_option maxRecDepth 100000 in
set_option maxHeartbeats 4000000 in
theorem sameRequest_ok (w : World) (A B C D A' B' C' D' : Option Addr) (r : Rq) (a b c d a' b' c' d' : Nat) (hA : Bs All w A r.name) (hB : Bs All w B r.key) (hC : Bs All w C r.last) (hD : Bs All w D r.value) (hA' : Bs All w A' r.name) (hB' : Bs All w B' r.key) (hC' : Bs All w C' r.last) (hD' : Bs All w D' r.value) :
    Calls Tryd.prog 30 #[.agg #[.int .i64 r.kind, .slice A r.name.length a, .slice B r.key.length b, .slice C r.last.length c, .slice D r.value.length d], .agg #[.int .i64 r.kind, .slice A' r.name.length a', .slice B' r.key.length b', .slice C' r.last.length c', .slice D' r.value.length d']] w (RetV w (.bool true)) := by
  obtain ⟨hx, hy, hsz, hbl⟩ := two_rq w (.cells #[.int .i64 r.kind, .slice A r.name.length a, .slice B r.key.length b, .slice C r.last.length c, .slice D r.value.length d] 24) (.cells #[.int .i64 r.kind, .slice A' r.name.length a', .slice B' r.key.length b', .slice C' r.last.length c', .slice D' r.value.length d'] 24)
  obtain ⟨⟨qa, qb, qc, qd, qe⟩, _⟩ := box5 hx
  obtain ⟨⟨ra, rb, rc, rd, re⟩, _⟩ := box5 hy
  have HA := Lib.hid hA
  have HB := Lib.hid hB
  have HC := Lib.hid hC
  have HD := Lib.hid hD
  have HA' := Lib.hid hA'
  have HB' := Lib.hid hB'
  have HC' := Lib.hid hC'
  have HD' := Lib.hid hD'
  have Hbl := Lib.hid hbl
  clear hA hB hC hD hA' hB' hC' hD' hx hy hsz hbl
  go_enter Tryd.func30, Tryd.ntmps30
  go_wp2_with (first
    | (go_at_call 26; (with_reducible refine (sameBytes_ok _ A A' r.name r.name a a' ?h1 ?h2).mono ?_); (case h1 => exact HA.out.bbelow Hbl.out); (case h2 => exact HA'.out.bbelow Hbl.out); rintro e1 w1 ⟨rfl, rfl⟩)
    | (go_at_call 26; (with_reducible refine (sameBytes_ok _ B B' r.key r.key b b' ?h1 ?h2).mono ?_); (case h1 => exact HB.out.bbelow Hbl.out); (case h2 => exact HB'.out.bbelow Hbl.out); rintro e1 w1 ⟨rfl, rfl⟩)
    | (go_at_call 26; (with_reducible refine (sameBytes_ok _ C C' r.last r.last c c' ?h1 ?h2).mono ?_); (case h1 => exact HC.out.bbelow Hbl.out); (case h2 => exact HC'.out.bbelow Hbl.out); rintro e1 w1 ⟨rfl, rfl⟩)
    | (go_at_call 26; (with_reducible refine (sameBytes_ok _ D D' r.value r.value d d' ?h1 ?h2).mono ?_); (case h1 => exact HD.out.bbelow Hbl.out); (case h2 => exact HD'.out.bbelow Hbl.out); rintro e1 w1 ⟨rfl, rfl⟩))
  go_ret
  exact ⟨by simp, Hbl.out⟩
end Go.Proofs.YtddppmhpdgecgaaDoor
