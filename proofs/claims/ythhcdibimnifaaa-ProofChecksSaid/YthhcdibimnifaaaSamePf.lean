/- Walk: sameProof; the law ProofChecks. -/
import Derived.Test.YthhcdibimnifaaaPfCopy
import Derived.Test.YthhcdibimnifaaaPfCheck
import Derived.Test.YthhcdibimnifaaaCopy
namespace Go.Proofs.Ythhcdibimnifaaa
open Go.RowKit
set_option linter.unusedVariables false
set_option linter.unusedSimpArgs false

set_option maxRecDepth 100000 in
set_option maxHeartbeats 4000000 in
theorem sameProof_ok (w : World) (A K V A' K' V' : Option Addr) (p : Pf) (n a b n' a' b' : Nat) (ha : Sts All w A p.steps) (hK : Bs All w K p.pair.1) (hV : Bs All w V p.pair.2) (ha' : Sts All w A' p.steps) (hK' : Bs All w K' p.pair.1) (hV' : Bs All w V' p.pair.2) (hst : p.steps.length * 40 ≤ 140737488355328) :
    Calls Try.prog 82 #[.agg #[.bool p.empty, .slice A p.steps.length n, .slice K p.pair.1.length a, .slice V p.pair.2.length b], .agg #[.bool p.empty, .slice A' p.steps.length n', .slice K' p.pair.1.length a', .slice V' p.pair.2.length b']] w (RetV w (.bool true)) := by
  have Ha := Lib.hid ha
  have HK := Lib.hid hK
  have HV := Lib.hid hV
  have Ha' := Lib.hid ha'
  have HK' := Lib.hid hK'
  have HV' := Lib.hid hV'
  have Hst := Lib.hid hst
  clear ha hK hV ha' hK' hV' hst
  obtain ⟨hx, hy, hsz, hbl⟩ := two_new w (.cells #[.bool p.empty, .slice A p.steps.length n, .slice K p.pair.1.length a, .slice V p.pair.2.length b] 105) (.cells #[.bool p.empty, .slice A' p.steps.length n', .slice K' p.pair.1.length a', .slice V' p.pair.2.length b'] 105)
  have Hx := Lib.hid hx
  have Hy := Lib.hid hy
  have Hbl := Lib.hid hbl
  have Hsz := Lib.hid hsz
  clear hx hy hbl hsz
  go_enter Try.func82, Try.ntmps82
  go_wp2_with (go_at_call 95; refine (samePair_ok _ K V K' V' p.pair a b a' b' (HK.out.bbelow Hbl.out) (HV.out.bbelow Hbl.out) (HK'.out.bbelow Hbl.out) (HV'.out.bbelow Hbl.out)).mono ?_; rintro e w1 ⟨rfl, hb1⟩; have hz1 := hb1.size; obtain ⟨g0, g1, g2, g3, _⟩ := box4p ((hb1.block w.heap.size (by first | (simp; done) | omega | (simp; omega))).trans Hx.out); obtain ⟨d0, d1, d2, d3, _⟩ := box4p ((hb1.block (w.heap.size + 1) (by first | (simp; done) | omega | (simp; omega))).trans Hy.out))
  rw [Hsz.out] at hz1
  have hsz := Hsz.out
  have Hx1 := Lib.hid ((hb1.block _ (by omega)).trans Hx.out)
  have Hy1 := Lib.hid ((hb1.block _ (by omega)).trans Hy.out)
  have Hb1 := Lib.hid (Hbl.out.next hb1 (by omega))
  clear hb1 hsz Hsz Hx Hy Hbl g0 g1 g2 g3 d0 d1 d2 d3
  go_loopw [5] (fun i wr => ∃ k : Nat, k ≤ p.steps.length ∧ i = .int .i64 k ∧ Below w1.heap.size w1 wr) (fun i _ => p.steps.length - (intOf i).toNat)
  case atStart => exact ⟨0, by omega, rfl, Below.refl _ _⟩
  case round =>
    obtain ⟨k, hk, rfl, hbel⟩ := hrel
    have Hbel := Lib.hid hbel
    have hbz := hbel.size
    have Hbw := Lib.hid (Hb1.out.next hbel (by omega))
    obtain ⟨g0, g1, g2, g3, _⟩ := box4p ((hbel.block w.heap.size (by omega)).trans Hx1.out)
    obtain ⟨d0, d1, d2, d3, _⟩ := box4p ((hbel.block (w.heap.size + 1) (by omega)).trans Hy1.out)
    clear hbel
    by_cases hlt : k < p.steps.length
    · obtain ⟨g, off, B, c, rfl, _, hal, hc1, hc2, hc3, hs1, hb1⟩ := sts_at (Ha.out.below stR_stays Hbw.out) hlt
      obtain ⟨g', off', B', c', rfl, _, hal', hd1, hd2, hd3, hs1', hb1'⟩ := sts_at (Ha'.out.below stR_stays Hbw.out) hlt
      generalize p.steps[k] = x at *
      have Hs1 := Lib.hid hs1.bz
      have Hs2 := Lib.hid hs1'.bz
      have hi0 : (0 : Int) ≤ (k : Int) := by omega
      have hi1 : (k : Int) < (p.steps.length : Int) := by omega
      have Hlt := Lib.hid hlt
      have hlb : p.steps.length ≤ 3518437208883 := by have := Hst.out; omega
      clear hs1 hs1' hb1 hb1'
      go_wp2_with fail
      go_quiet ((go_at_call 53; exact Calls.quiet_of_same ((sameBytes_ok _ B B' x.other x.other c c' (Hs1.out.bsame (by repeat' (first | exact Same.refl _ _ | assumption | refine Same.drew ?_ | refine Same.drewN ?_ _ | refine Same.alloc ?_ _ | refine Same.setCell ?_ (fun hq => by simp only [From] at hq; first | omega | (simp at hq; done) | (simp at hq; omega)) _))) (Hs2.out.bsame (by repeat' (first | exact Same.refl _ _ | assumption | refine Same.drew ?_ | refine Same.drewN ?_ _ | refine Same.alloc ?_ _ | refine Same.setCell ?_ (fun hq => by simp only [From] at hq; first | omega | (simp at hq; done) | (simp at hq; omega)) _)))).mono fun e w' h => ⟨h.1, h.2.symm⟩)))
      go_wp2
      go_roundw
      case rel => exact ⟨k + 1, by have := Hlt.out; omega, by go_num, below_drewN Hbel.out _⟩
      case measure => have := Hlt.out; simp [intOf]; omega
    · go_wp2
      go_ret
      exact ⟨rfl, Hbw.out⟩

set_option maxRecDepth 100000 in
set_option maxHeartbeats 4000000 in
theorem proofChecks_walk (w : World) {D : Option Addr} {k : List UInt8} {dc : Nat} (hk : Bs All w D k ∧ k.length ≤ big) {cl : List Value} {p : Pf} (h : PfR All w cl p) :
    Calls Try.prog 22 #[.slice D k.length dc, .agg cl.toArray] w (RetV w (.bool true)) := by
  obtain ⟨A, n, K, a, V, b, rfl, ha, hK, hV, hst, hl1, hl2⟩ := h
  have Hk := Lib.hid hk.1
  have hkb := hk.2
  have Ha := Lib.hid ha
  have HK := Lib.hid hK
  have HV := Lib.hid hV
  clear hk ha hK hV
  have Hbox := Lib.hid (show ∀ W, Below (w.heap.size + 1) (w.alloc (.cells #[.bool p.empty, .slice A p.steps.length n, .slice K p.pair.1.length a, .slice V p.pair.2.length b] 105)) W → W.cell? ⟨w.heap.size, 0, none⟩ = some (.bool p.empty) ∧ W.cell? ⟨w.heap.size, 1, none⟩ = some (.slice A p.steps.length n) ∧ W.cell? ⟨w.heap.size, 2, none⟩ = some (.slice K p.pair.1.length a) ∧ W.cell? ⟨w.heap.size, 3, none⟩ = some (.slice V p.pair.2.length b) ∧ Below w.heap.size w W ∧ w.heap.size + 1 ≤ W.heap.size from fun W hW => by
    obtain ⟨g0, g1, g2, g3, _⟩ := box4p ((hW.block _ (by omega)).trans (box_new w _ _))
    exact ⟨g0, g1, g2, g3, ((Below.refl w.heap.size w).alloc (Nat.le_refl _) _).trans (hW.mono (by omega)), by simpa using hW.size⟩)
  go_enter Try.func22, Try.ntmps22
  go_wp2_with (go_at_call 79; refine (proofs_ok _ A K V p n a b (Ha.out.below stR_stays ?_) (HK.out.bbelow ?_) (HV.out.bbelow ?_) hst hl1 hl2).mono ?_; (repeat' (first | exact Below.refl _ _ | assumption | refine Below.drew ?_ | refine below_drewN ?_ _ | refine Below.alloc ?_ (by first | exact Nat.le_refl _ | omega | (simp; done) | (simp; omega)) _)); (repeat' (first | exact Below.refl _ _ | assumption | refine Below.drew ?_ | refine below_drewN ?_ _ | refine Below.alloc ?_ (by first | exact Nat.le_refl _ | omega | (simp; done) | (simp; omega)) _)); (repeat' (first | exact Below.refl _ _ | assumption | refine Below.drew ?_ | refine below_drewN ?_ _ | refine Below.alloc ?_ (by first | exact Nat.le_refl _ | omega | (simp; done) | (simp; omega)) _)); rintro e w1 ⟨A1, n1, K1, a1, V1, b1, rfl, hs1, hs2, hs3, hb1'⟩; have hb1 := hb1'.mono (show w.heap.size + 1 ≤ _ by simp); obtain ⟨g0, g1, g2, g3, hw1, hz1⟩ := Hbox.out w1 hb1; clear hb1')
  have Hs1 := Lib.hid (hs1.z stR_stays)
  have Hs2 := Lib.hid hs2.bz
  have Hs3 := Lib.hid hs3.bz
  clear hs1 hs2 hs3
  have Hbx := Lib.hid (show ∀ W, Below (w1.heap.size + 1) (w1.alloc (.cells #[.bool p.empty, .slice A1 p.steps.length n1, .slice K1 p.pair.1.length a1, .slice V1 p.pair.2.length b1] 105)) W → (W.cell? ⟨w1.heap.size, 0, none⟩ = some (.bool p.empty) ∧ W.cell? ⟨w1.heap.size, 1, none⟩ = some (.slice A1 p.steps.length n1) ∧ W.cell? ⟨w1.heap.size, 2, none⟩ = some (.slice K1 p.pair.1.length a1) ∧ W.cell? ⟨w1.heap.size, 3, none⟩ = some (.slice V1 p.pair.2.length b1)) ∧ (W.cell? ⟨w.heap.size, 0, none⟩ = some (.bool p.empty) ∧ W.cell? ⟨w.heap.size, 1, none⟩ = some (.slice A p.steps.length n) ∧ W.cell? ⟨w.heap.size, 2, none⟩ = some (.slice K p.pair.1.length a) ∧ W.cell? ⟨w.heap.size, 3, none⟩ = some (.slice V p.pair.2.length b)) ∧ Below w1.heap.size w1 W ∧ Below w.heap.size w W ∧ w1.heap.size + 1 ≤ W.heap.size from fun W hW => by
    obtain ⟨g0, g1, g2, g3, _⟩ := box4p ((hW.block _ (by omega)).trans (box_new w1 _ _))
    have h1 := ((Below.refl w1.heap.size w1).alloc (Nat.le_refl _) _).trans (hW.mono (by omega))
    obtain ⟨q0, q1, q2, q3, q4, q5⟩ := Hbox.out W (hb1.next h1 hz1)
    exact ⟨⟨g0, g1, g2, g3⟩, ⟨q0, q1, q2, q3⟩, h1, q4, by simpa using hW.size⟩)
  clear hb1 hw1 hz1 g0 g1 g2 g3
  go_region_held3 (fun w' => w'.cell? ⟨w1.heap.size, 0, none⟩ = some (.bool p.empty) ∧ w'.cell? ⟨w1.heap.size, 1, none⟩ = some (.slice A1 p.steps.length n1) ∧ w'.cell? ⟨w1.heap.size, 2, none⟩ = some (.slice K1 p.pair.1.length a1) ∧ w'.cell? ⟨w1.heap.size, 3, none⟩ = some (.slice V1 p.pair.2.length b1))
    (first
      | go_keep
      | exact g2
      | exact g3)
    (first
      | (go_at_call 25; (with_reducible refine (octets_ok _ D k dc ?hq hkb).mono ?_); (case hq => (refine Hk.out.bbelow ?_; exact (Hbx.out _ (by repeat' (first | exact Below.refl _ _ | assumption | refine Below.drew ?_ | refine below_drewN ?_ _ | refine Below.setCell ?_ (by first | (simp; done) | omega | (simp; omega)) _ | refine Below.alloc ?_ (by first | exact Nat.le_refl _ | omega | (simp; done) | (simp; omega)) _))).2.2.2.1)); rintro e w2 ⟨D1, dc1, rfl, gs2, hb2'⟩; have hb2 : Below (w1.heap.size + 1) (w1.alloc (.cells #[.bool p.empty, .slice A1 p.steps.length n1, .slice K1 p.pair.1.length a1, .slice V1 p.pair.2.length b1] 105)) w2 := Below.next (by repeat' (first | exact Below.refl _ _ | assumption | refine Below.drew ?_ | refine below_drewN ?_ _ | refine Below.setCell ?_ (by first | (simp; done) | omega | (simp; omega)) _ | refine Below.alloc ?_ (by first | exact Nat.le_refl _ | omega | (simp; done) | (simp; omega)) _)) (hb2'.mono (Nat.le_refl _)) (by simp); obtain ⟨g2, j2, hx2, hw2, hz2⟩ := Hbx.out w2 hb2; have Gs2 := Lib.hid gs2.bz; clear gs2)
      | (go_at_call 80; (with_reducible refine (proofCheck_ok _ D1 k dc1 A1 K1 V1 p n1 a1 b1 ?h1 ?h2 ?h3 ?h4 hst hl1 hl2).mono ?_); (case h1 => exact Gs2.out); (case h2 => exact Hs1.out.below stR_stays hx2); (case h3 => exact Hs2.out.bbelow hx2); (case h4 => exact Hs3.out.bbelow hx2); rintro e w3 ⟨rfl, hb3⟩; obtain ⟨g3, j3, hx3, hw3, hz3⟩ := Hbx.out w3 (hb2.next hb3 hz2)))
  all_goals
    obtain ⟨i0, i1, i2, i3⟩ := j3
    have Hb3 := Lib.hid (hb2.next hb3 hz2)
    clear hb2 hb3
    go_wp2_with (first
      | (go_at_call 81; (with_reducible refine (proofFault_ok _ D k dc A K V p n a b ?h1 ?h2 ?h3 hst).mono ?_); (case h1 => exact Hk.out.bbelow hw3); (case h2 => exact Ha.out.below stR_stays hw3); (case h3 => exact HK.out.bbelow hw3); rintro e w4 ⟨rfl, hb4⟩; obtain ⟨⟨f0, f1, f2, f3⟩, ⟨e0, e1, e2, e3⟩, hx4, hw4, hz4⟩ := Hbx.out w4 (Hb3.out.next hb4 hz3))
      | (go_at_call 82; (with_reducible refine (sameProof_ok _ A1 K1 V1 A K V p n1 a1 b1 n a b ?h1 ?h2 ?h3 ?h4 ?h5 ?h6 hst).mono ?_); (case h1 => exact Hs1.out.below stR_stays hx4); (case h2 => exact Hs2.out.bbelow hx4); (case h3 => exact Hs3.out.bbelow hx4); (case h4 => exact Ha.out.below stR_stays hw4); (case h5 => exact HK.out.bbelow hw4); (case h6 => exact HV.out.bbelow hw4); rintro e w5 ⟨rfl, hb5⟩))
    go_ret
    exact ⟨by simp, hw4.next hb5 hw4.size⟩
end Go.Proofs.Ythhcdibimnifaaa
