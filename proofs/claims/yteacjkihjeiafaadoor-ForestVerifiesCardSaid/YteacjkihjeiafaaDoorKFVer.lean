/- FVer: Walks: forest.Verify and ForestVerified. The proofs may be. The conditions of each are in its words. -/
import Derived.Test.YteacjkihjeiafaaDoorKVer
import Derived.Test.YteacjkihjeiafaaDoorKForest
namespace Go.Proofs.YteacjkihjeiafaaDoor
open Go.RowKit
set_option linter.unusedVariables false
set_option linter.unusedSimpArgs false

/-- What forest.Verify and ForestVerified answer. -/
def fvS (r n k : List UInt8) (p q : Pf) : Finding × Int :=
  if nameFault n ≠ 0 then ((false, []), nameFault n) else if (verifyS r n p).2 ≠ 0 then ((false, []), (verifyS r n p).2) else verifyS (if (verifyS r n p).1.1 then (verifyS r n p).1.2 else noneS) k q
theorem three_new (w : World) (o1 o2 o3 : Obj) : (((w.alloc o1).alloc o2).alloc o3).heap[w.heap.size]? = some o1 ∧ (((w.alloc o1).alloc o2).alloc o3).heap[w.heap.size + 1]? = some o2 ∧ (((w.alloc o1).alloc o2).alloc o3).heap[w.heap.size + 1 + 1]? = some o3 ∧ (((w.alloc o1).alloc o2).alloc o3).heap.size = w.heap.size + 3 ∧ Below w.heap.size w (((w.alloc o1).alloc o2).alloc o3) := by
  have e0 : (w.alloc o1).heap.size = w.heap.size + 1 := by simp
  have e1 : ((w.alloc o1).alloc o2).heap.size = w.heap.size + 1 + 1 := by simp
  have x1 := alloc_newB w o1
  have x2 := alloc_newB (w.alloc o1) o2
  have x3 := alloc_newB ((w.alloc o1).alloc o2) o3
  rw [e0] at x2
  rw [e1] at x3
  refine ⟨?_, ?_, x3, by simp, (((Below.refl _ _).alloc (Nat.le_refl _) _).alloc (by simp) _).alloc (by simp; omega) _⟩
  · rw [alloc_oldB _ _ (by rw [e1]; omega), alloc_oldB _ _ (by rw [e0]; omega)]; exact x1
  · rw [alloc_oldB _ _ (by rw [e1]; omega)]; exact x2
theorem set2a {w w' : World} (h : Below w.heap.size w w') {g i j : Nat} (hg : w.heap.size ≤ g) {a b : Value} {o : Obj} : Below w.heap.size w (((w'.setCell ⟨g, i, none⟩ a).setCell ⟨g, j, none⟩ b).alloc o) :=
  ((h.setCell hg _).setCell hg _).alloc ((h.setCell (p := ⟨g, i, none⟩) hg a).setCell (p := ⟨g, j, none⟩) hg b).size _
set_option maxRecDepth 100000 in
set_option maxHeartbeats 8000000 in
theorem forestVerify_ok (w : World) (hT : TabsAt w) (R N K Ap Kp Vp Aq Kq Vq : Option Addr) (r n k : List UInt8) (p q : Pf) (rc nc kc np ap bp nq aq bq : Nat) (hr : Bs All w R r) (hn : Bs All w N n) (hk : Bs All w K k) (h1p : Sts All w Ap p.steps) (h2p : Bs All w Kp p.pair.1) (h3p : Bs All w Vp p.pair.2) (hstp : p.steps.length * 40 ≤ 140737488355328) (hl1p : p.pair.1.length ≤ big) (hl2p : p.pair.2.length ≤ big) (h1q : Sts All w Aq q.steps) (h2q : Bs All w Kq q.pair.1) (h3q : Bs All w Vq q.pair.2) (hstq : q.steps.length * 40 ≤ 140737488355328) (hl1q : q.pair.1.length ≤ big) (hl2q : q.pair.2.length ≤ big) (hnb : n.length ≤ big) :
    Calls Tryd.prog 8 #[.slice R r.length rc, .slice N n.length nc, .slice K k.length kc, .agg #[.bool p.empty, .slice Ap p.steps.length np, .slice Kp p.pair.1.length ap, .slice Vp p.pair.2.length bp], .agg #[.bool q.empty, .slice Aq q.steps.length nq, .slice Kq q.pair.1.length aq, .slice Vq q.pair.2.length bq]] w (RetGet w (fvS r n k p q)) := by
  have HT := Lib.hid hT
  have Hr := Lib.hid hr
  have Hn := Lib.hid hn
  have Hk := Lib.hid hk
  have H1p := Lib.hid h1p
  have H2p := Lib.hid h2p
  have H3p := Lib.hid h3p
  have H1q := Lib.hid h1q
  have H2q := Lib.hid h2q
  have H3q := Lib.hid h3q
  have Hb := Lib.hid (fun (W : World) (hW : Below (w.heap.size + 3) (((w.alloc (.cells #[.bool p.empty, .slice Ap p.steps.length np, .slice Kp p.pair.1.length ap, .slice Vp p.pair.2.length bp] 27)).alloc (.cells #[.bool q.empty, .slice Aq q.steps.length nq, .slice Kq q.pair.1.length aq, .slice Vq q.pair.2.length bq] 27)).alloc (.cells #[.bool false, .slice none 0 0] 29)) W) => show (W.cell? ⟨w.heap.size, 0, none⟩ = some (.bool p.empty) ∧ W.cell? ⟨w.heap.size, 1, none⟩ = some (.slice Ap p.steps.length np) ∧ W.cell? ⟨w.heap.size, 2, none⟩ = some (.slice Kp p.pair.1.length ap) ∧ W.cell? ⟨w.heap.size, 3, none⟩ = some (.slice Vp p.pair.2.length bp) ∧ True) ∧ (W.cell? ⟨w.heap.size + 1, 0, none⟩ = some (.bool q.empty) ∧ W.cell? ⟨w.heap.size + 1, 1, none⟩ = some (.slice Aq q.steps.length nq) ∧ W.cell? ⟨w.heap.size + 1, 2, none⟩ = some (.slice Kq q.pair.1.length aq) ∧ W.cell? ⟨w.heap.size + 1, 3, none⟩ = some (.slice Vq q.pair.2.length bq) ∧ True) ∧ (W.cell? ⟨w.heap.size + 1 + 1, 0, none⟩ = some (.bool false) ∧ W.cell? ⟨w.heap.size + 1 + 1, 1, none⟩ = some (.slice none 0 0) ∧ ¬ W.frozen? ⟨w.heap.size + 1 + 1, 0, none⟩ = true ∧ ¬ W.frozen? ⟨w.heap.size + 1 + 1, 1, none⟩ = true) ∧ Below w.heap.size w W ∧ w.heap.size < W.heap.size ∧ w.heap.size + 1 < W.heap.size ∧ w.heap.size + 1 + 1 < W.heap.size from by
    obtain ⟨t1, t2, t3, t4, t5⟩ := three_new w (.cells #[.bool p.empty, .slice Ap p.steps.length np, .slice Kp p.pair.1.length ap, .slice Vp p.pair.2.length bp] 27) (.cells #[.bool q.empty, .slice Aq q.steps.length nq, .slice Kq q.pair.1.length aq, .slice Vq q.pair.2.length bq] 27) (.cells #[.bool false, .slice none 0 0] 29)
    obtain ⟨z0, z1, z2, z3, _⟩ := box4p ((hW.block w.heap.size (by omega)).trans t1)
    obtain ⟨y0, y1, y2, y3, _⟩ := box4p ((hW.block (w.heap.size + 1) (by omega)).trans t2)
    obtain ⟨x0, x1, x2, x3⟩ := box2 ((hW.block (w.heap.size + 1 + 1) (by omega)).trans t3)
    have hs := hW.size
    exact ⟨⟨z0, z1, z2, z3, trivial⟩, ⟨y0, y1, y2, y3, trivial⟩, ⟨x0, x1, by simp [x2], by simp [x3]⟩, t5.trans (hW.mono (by omega)), by omega, by omega, by omega⟩)
  clear hr hn hk h1p h2p h3p h1q h2q h3q hT
  obtain ⟨nf, hnf⟩ : ∃ nf, nameFault n = nf := ⟨_, rfl⟩
  have Hnf := Lib.hid hnf
  by_cases hz : nf = 0
  · subst hz
    obtain ⟨⟨fb, fv⟩, e, hv⟩ : ∃ (f : Finding) (e : Int), verifyS r n p = (f, e) := ⟨_, _, rfl⟩
    have Hv := Lib.hid hv
    by_cases he : e = 0
    · subst he
      cases fb with
      | true =>
        obtain ⟨g, i, hg⟩ : ∃ (g : Finding) (i : Int), verifyS fv k q = (g, i) := ⟨_, _, rfl⟩
        have Hg := Lib.hid hg
        have Hf := Lib.hid (show fvS r n k p q = (g, i) by unfold fvS; rw [if_neg (by rw [hnf]; simp), hv, if_neg (by simp)]; exact hg)
        clear hnf hv hg
        go_enter Tryd.func8, Tryd.ntmps8
        go_wp2_with (first
          | (go_at_call 30; refine (forestName_ok _ N n nc).mono ?_; rintro e0 w0 ⟨rfl, rfl⟩; rw [Hnf.out])
          | (go_at_call 31; (with_reducible refine (verify_ok _ ?t0 R N Ap Kp Vp r n p rc nc np ap bp ?t1 ?t2 ?t3 ?t4 ?t5 hstp hl1p hl2p).mono ?_); (case t0 => (refine HT.out.below ?_; repeat' (first | exact Below.refl _ _ | assumption | refine Below.drew ?_ | refine below_drewN ?_ _ | refine Below.setCell ?_ (by first | (simp; done) | omega | (simp; omega)) _ | refine Below.alloc ?_ (by first | exact Nat.le_refl _ | omega | (simp; done) | (simp; omega)) _))); (case t1 => (refine Hr.out.bbelow ?_; repeat' (first | exact Below.refl _ _ | assumption | refine Below.drew ?_ | refine below_drewN ?_ _ | refine Below.setCell ?_ (by first | (simp; done) | omega | (simp; omega)) _ | refine Below.alloc ?_ (by first | exact Nat.le_refl _ | omega | (simp; done) | (simp; omega)) _))); (case t2 => (refine Hn.out.bbelow ?_; repeat' (first | exact Below.refl _ _ | assumption | refine Below.drew ?_ | refine below_drewN ?_ _ | refine Below.setCell ?_ (by first | (simp; done) | omega | (simp; omega)) _ | refine Below.alloc ?_ (by first | exact Nat.le_refl _ | omega | (simp; done) | (simp; omega)) _))); (case t3 => (refine H1p.out.below stR_stays ?_; repeat' (first | exact Below.refl _ _ | assumption | refine Below.drew ?_ | refine below_drewN ?_ _ | refine Below.setCell ?_ (by first | (simp; done) | omega | (simp; omega)) _ | refine Below.alloc ?_ (by first | exact Nat.le_refl _ | omega | (simp; done) | (simp; omega)) _))); (case t4 => (refine H2p.out.bbelow ?_; repeat' (first | exact Below.refl _ _ | assumption | refine Below.drew ?_ | refine below_drewN ?_ _ | refine Below.setCell ?_ (by first | (simp; done) | omega | (simp; omega)) _ | refine Below.alloc ?_ (by first | exact Nat.le_refl _ | omega | (simp; done) | (simp; omega)) _))); (case t5 => (refine H3p.out.bbelow ?_; repeat' (first | exact Below.refl _ _ | assumption | refine Below.drew ?_ | refine below_drewN ?_ _ | refine Below.setCell ?_ (by first | (simp; done) | omega | (simp; omega)) _ | refine Below.alloc ?_ (by first | exact Nat.le_refl _ | omega | (simp; done) | (simp; omega)) _))); rw [Hv.out]; rintro e1 w1 ⟨F, fc, rfl, hsf, hb1'⟩; have hb1 := hb1'.mono (show w.heap.size + 3 ≤ _ by simp); obtain ⟨⟨p01, p11, p21, p31, _⟩, ⟨q01, q11, q21, q31, _⟩, ⟨f01, f11, f21, f31⟩, hq1, hl1a, hl1b, hl1c⟩ := Hb.out w1 hb1)
          | (go_at_call 31; (with_reducible refine (verify_ok _ ?t0 F K Aq Kq Vq fv k q fc kc nq aq bq ?t1 ?t2 ?t3 ?t4 ?t5 hstq hl1q hl2q).mono ?_); (case t0 => (refine HT.out.below ?_; first | exact hq1.alloc hq1.size _ | exact (Below.refl _ _).alloc (Nat.le_refl _) _)); (case t1 => (refine (hsf.bbelow ?_).bz; first | exact hq1.alloc hq1.size _ | exact (Below.refl _ _).alloc (Nat.le_refl _) _)); (case t2 => (refine Hk.out.bbelow ?_; first | exact hq1.alloc hq1.size _ | exact (Below.refl _ _).alloc (Nat.le_refl _) _)); (case t3 => (refine H1q.out.below stR_stays ?_; first | exact hq1.alloc hq1.size _ | exact (Below.refl _ _).alloc (Nat.le_refl _) _)); (case t4 => (refine H2q.out.bbelow ?_; first | exact hq1.alloc hq1.size _ | exact (Below.refl _ _).alloc (Nat.le_refl _) _)); (case t5 => (refine H3q.out.bbelow ?_; first | exact hq1.alloc hq1.size _ | exact (Below.refl _ _).alloc (Nat.le_refl _) _)); rw [Hg.out]; rintro e2 w2 ⟨G, gc, rfl, hsg, hb2'⟩; have hb2 := (hb1.alloc (by omega) _).next hb2' (by simp; omega); obtain ⟨⟨p02, p12, p22, p32, _⟩, ⟨q02, q12, q22, q32, _⟩, ⟨f02, f12, f22, f32⟩, hq2, hl2a, hl2b, hl2c⟩ := Hb.out w2 hb2))
        all_goals
          refine bodyPost_ret (v := .tuple #[.agg #[.bool g.1, .slice G g.2.length gc], .int .i64 i]) (by simp [results, Tryd.results8, go_sem, f02, f12, hl2c]) rfl ?_
          rw [Hf.out]
          refine ⟨G, gc, rfl, ?_, ?_⟩
          · exact (hsg.bsame (((Same.refl _ _).setCell (fun h => by simp only [From] at h; first | omega | (simp at h; done) | (simp at h; omega)) _).setCell (fun h => by simp only [From] at h; first | omega | (simp at h; done) | (simp at h; omega)) _)).blo (by first | omega | exact hq3.size | exact (hq1.alloc hq1.size _).size | (simp; omega))
          · exact (hq2.setCell (by simp only []; omega) _).setCell (by simp only []; omega) _
      | false =>
        obtain ⟨g, i, hg⟩ : ∃ (g : Finding) (i : Int), verifyS noneS k q = (g, i) := ⟨_, _, rfl⟩
        have Hg := Lib.hid hg
        have Hf := Lib.hid (show fvS r n k p q = (g, i) by unfold fvS; rw [if_neg (by rw [hnf]; simp), hv, if_neg (by simp)]; exact hg)
        clear hnf hv hg
        go_enter Tryd.func8, Tryd.ntmps8
        go_wp2_with (first
          | (go_at_call 30; refine (forestName_ok _ N n nc).mono ?_; rintro e0 w0 ⟨rfl, rfl⟩; rw [Hnf.out])
          | (go_at_call 31; (with_reducible refine (verify_ok _ ?t0 R N Ap Kp Vp r n p rc nc np ap bp ?t1 ?t2 ?t3 ?t4 ?t5 hstp hl1p hl2p).mono ?_); (case t0 => (refine HT.out.below ?_; repeat' (first | exact Below.refl _ _ | assumption | refine Below.drew ?_ | refine below_drewN ?_ _ | refine Below.setCell ?_ (by first | (simp; done) | omega | (simp; omega)) _ | refine Below.alloc ?_ (by first | exact Nat.le_refl _ | omega | (simp; done) | (simp; omega)) _))); (case t1 => (refine Hr.out.bbelow ?_; repeat' (first | exact Below.refl _ _ | assumption | refine Below.drew ?_ | refine below_drewN ?_ _ | refine Below.setCell ?_ (by first | (simp; done) | omega | (simp; omega)) _ | refine Below.alloc ?_ (by first | exact Nat.le_refl _ | omega | (simp; done) | (simp; omega)) _))); (case t2 => (refine Hn.out.bbelow ?_; repeat' (first | exact Below.refl _ _ | assumption | refine Below.drew ?_ | refine below_drewN ?_ _ | refine Below.setCell ?_ (by first | (simp; done) | omega | (simp; omega)) _ | refine Below.alloc ?_ (by first | exact Nat.le_refl _ | omega | (simp; done) | (simp; omega)) _))); (case t3 => (refine H1p.out.below stR_stays ?_; repeat' (first | exact Below.refl _ _ | assumption | refine Below.drew ?_ | refine below_drewN ?_ _ | refine Below.setCell ?_ (by first | (simp; done) | omega | (simp; omega)) _ | refine Below.alloc ?_ (by first | exact Nat.le_refl _ | omega | (simp; done) | (simp; omega)) _))); (case t4 => (refine H2p.out.bbelow ?_; repeat' (first | exact Below.refl _ _ | assumption | refine Below.drew ?_ | refine below_drewN ?_ _ | refine Below.setCell ?_ (by first | (simp; done) | omega | (simp; omega)) _ | refine Below.alloc ?_ (by first | exact Nat.le_refl _ | omega | (simp; done) | (simp; omega)) _))); (case t5 => (refine H3p.out.bbelow ?_; repeat' (first | exact Below.refl _ _ | assumption | refine Below.drew ?_ | refine below_drewN ?_ _ | refine Below.setCell ?_ (by first | (simp; done) | omega | (simp; omega)) _ | refine Below.alloc ?_ (by first | exact Nat.le_refl _ | omega | (simp; done) | (simp; omega)) _))); rw [Hv.out]; rintro e1 w1 ⟨F, fc, rfl, hsf, hb1'⟩; have hb1 := hb1'.mono (show w.heap.size + 3 ≤ _ by simp); obtain ⟨⟨p01, p11, p21, p31, _⟩, ⟨q01, q11, q21, q31, _⟩, ⟨f01, f11, f21, f31⟩, hq1, hl1a, hl1b, hl1c⟩ := Hb.out w1 hb1)
          | (go_at_call 32; (with_reducible refine (rootNil_ok _ ?t0).mono ?_); (case t0 => exact HT.out.below (hq1.alloc hq1.size _)); rintro e3 w3 ⟨F3, fc3, rfl, hs3, hb3'⟩; have hb3 := (hb1.alloc (by omega) _).next hb3' (by simp; omega); obtain ⟨⟨p03, p13, p23, p33, _⟩, ⟨q03, q13, q23, q33, _⟩, ⟨f03, f13, f23, f33⟩, hq3, hl3a, hl3b, hl3c⟩ := Hb.out w3 hb3; have hx3 := (hb3'.block w1.heap.size (by simp)).trans (box_new w1 _ _); obtain ⟨x0, x1, _, _⟩ := box2 hx3; have hlx := (Array.getElem?_eq_some_iff.1 hx3).1; have hq4 : ∀ v, Below w.heap.size w (w3.setCell ⟨w1.heap.size, 1, none⟩ v) := (fun v => hq3.setCell (show w.heap.size ≤ w1.heap.size from (by omega)) v); have hb4 : ∀ v, Below (w.heap.size + 3) _ (w3.setCell ⟨w1.heap.size, 1, none⟩ v) := (fun v => hb3.setCell (show w.heap.size + 3 ≤ w1.heap.size from (by omega)) v); have hs4 : ∀ v, Bs All (w3.setCell ⟨w1.heap.size, 1, none⟩ v) F3 noneS := (fun v => (hs3.bsame ((Same.refl _ _).setCell (p := ⟨w1.heap.size, 1, none⟩) (show ¬ From (w1.alloc (.cells #[.bool false, .slice F fv.length fc] 29)).heap.size w1.heap.size by (simp [From])) v)).bz))
          | (go_at_call 31; (with_reducible refine (verify_ok _ ?t0 F3 K Aq Kq Vq noneS k q fc3 kc nq aq bq ?t1 ?t2 ?t3 ?t4 ?t5 hstq hl1q hl2q).mono ?_); (case t0 => (refine HT.out.below ?_; exact hq4 _)); (case t1 => exact hs4 _); (case t2 => (refine Hk.out.bbelow ?_; exact hq4 _)); (case t3 => (refine H1q.out.below stR_stays ?_; exact hq4 _)); (case t4 => (refine H2q.out.bbelow ?_; exact hq4 _)); (case t5 => (refine H3q.out.bbelow ?_; exact hq4 _)); rw [Hg.out]; rintro e2 w2 ⟨G, gc, rfl, hsg, hb2'⟩; have hb2 := (hb4 _).next hb2' (by simp; omega); obtain ⟨⟨p02, p12, p22, p32, _⟩, ⟨q02, q12, q22, q32, _⟩, ⟨f02, f12, f22, f32⟩, hq2, hl2a, hl2b, hl2c⟩ := Hb.out w2 hb2))
        all_goals
          refine bodyPost_ret (v := .tuple #[.agg #[.bool g.1, .slice G g.2.length gc], .int .i64 i]) (by simp [results, Tryd.results8, go_sem, f02, f12, hl2c]) rfl ?_
          rw [Hf.out]
          refine ⟨G, gc, rfl, ?_, ?_⟩
          · exact (hsg.bsame (((Same.refl _ _).setCell (fun h => by simp only [From] at h; first | omega | (simp at h; done) | (simp at h; omega)) _).setCell (fun h => by simp only [From] at h; first | omega | (simp at h; done) | (simp at h; omega)) _)).blo (by first | omega | exact hq3.size | exact (hq1.alloc hq1.size _).size | (simp; omega))
          · exact (hq2.setCell (by simp only []; omega) _).setCell (by simp only []; omega) _
    · have Hf := Lib.hid (show fvS r n k p q = ((false, []), e) by unfold fvS; rw [if_neg (by rw [hnf]; simp), hv, if_pos (by simpa using he)])
      have hb : (e != 0) = true := by simpa using he
      clear hnf hv
      go_enter Tryd.func8, Tryd.ntmps8
      go_wp2_with (first
        | (go_at_call 30; refine (forestName_ok _ N n nc).mono ?_; rintro e0 w0 ⟨rfl, rfl⟩; rw [Hnf.out])
        | (go_at_call 31; (with_reducible refine (verify_ok _ ?t0 R N Ap Kp Vp r n p rc nc np ap bp ?t1 ?t2 ?t3 ?t4 ?t5 hstp hl1p hl2p).mono ?_); (case t0 => (refine HT.out.below ?_; repeat' (first | exact Below.refl _ _ | assumption | refine Below.drew ?_ | refine below_drewN ?_ _ | refine Below.setCell ?_ (by first | (simp; done) | omega | (simp; omega)) _ | refine Below.alloc ?_ (by first | exact Nat.le_refl _ | omega | (simp; done) | (simp; omega)) _))); (case t1 => (refine Hr.out.bbelow ?_; repeat' (first | exact Below.refl _ _ | assumption | refine Below.drew ?_ | refine below_drewN ?_ _ | refine Below.setCell ?_ (by first | (simp; done) | omega | (simp; omega)) _ | refine Below.alloc ?_ (by first | exact Nat.le_refl _ | omega | (simp; done) | (simp; omega)) _))); (case t2 => (refine Hn.out.bbelow ?_; repeat' (first | exact Below.refl _ _ | assumption | refine Below.drew ?_ | refine below_drewN ?_ _ | refine Below.setCell ?_ (by first | (simp; done) | omega | (simp; omega)) _ | refine Below.alloc ?_ (by first | exact Nat.le_refl _ | omega | (simp; done) | (simp; omega)) _))); (case t3 => (refine H1p.out.below stR_stays ?_; repeat' (first | exact Below.refl _ _ | assumption | refine Below.drew ?_ | refine below_drewN ?_ _ | refine Below.setCell ?_ (by first | (simp; done) | omega | (simp; omega)) _ | refine Below.alloc ?_ (by first | exact Nat.le_refl _ | omega | (simp; done) | (simp; omega)) _))); (case t4 => (refine H2p.out.bbelow ?_; repeat' (first | exact Below.refl _ _ | assumption | refine Below.drew ?_ | refine below_drewN ?_ _ | refine Below.setCell ?_ (by first | (simp; done) | omega | (simp; omega)) _ | refine Below.alloc ?_ (by first | exact Nat.le_refl _ | omega | (simp; done) | (simp; omega)) _))); (case t5 => (refine H3p.out.bbelow ?_; repeat' (first | exact Below.refl _ _ | assumption | refine Below.drew ?_ | refine below_drewN ?_ _ | refine Below.setCell ?_ (by first | (simp; done) | omega | (simp; omega)) _ | refine Below.alloc ?_ (by first | exact Nat.le_refl _ | omega | (simp; done) | (simp; omega)) _))); rw [Hv.out]; rintro e1 w1 ⟨F, fc, rfl, hsf, hb1'⟩; have hb1 := hb1'.mono (show w.heap.size + 3 ≤ _ by simp); obtain ⟨⟨p01, p11, p21, p31, _⟩, ⟨q01, q11, q21, q31, _⟩, ⟨f01, f11, f21, f31⟩, hq1, hl1a, hl1b, hl1c⟩ := Hb.out w1 hb1))
      all_goals
        refine bodyPost_ret (v := .tuple #[.agg #[.bool false, .slice none 0 0], .int .i64 e]) (by simp [results, Tryd.results8, go_sem, f01, f11, hl1c]) rfl ?_
        rw [Hf.out]
        exact ⟨none, 0, rfl, SL.nil, by first | assumption | exact set2a hq1 (by omega) | exact (((Below.refl _ _).alloc (Nat.le_refl _) _).alloc (by simp) _).alloc (by simp; omega) _⟩
  · have Hf := Lib.hid (show fvS r n k p q = ((false, []), nf) by unfold fvS; rw [if_pos (by rw [hnf]; exact hz), hnf])
    have hb : (nf != 0) = true := by simpa using hz
    clear hnf
    go_enter Tryd.func8, Tryd.ntmps8
    go_wp2_with (go_at_call 30; refine (forestName_ok _ N n nc).mono ?_; rintro e0 w0 ⟨rfl, rfl⟩; rw [Hnf.out])
    all_goals
      refine bodyPost_ret (v := .tuple #[.agg #[.bool false, .slice none 0 0], .int .i64 nf]) (by simp [results, Tryd.results8, go_sem]) rfl ?_
      rw [Hf.out]
      exact ⟨none, 0, rfl, SL.nil, by first | assumption | exact set2a hq1 (by omega) | exact (((Below.refl _ _).alloc (Nat.le_refl _) _).alloc (by simp) _).alloc (by simp; omega) _⟩
set_option maxRecDepth 100000 in
set_option maxHeartbeats 8000000 in
theorem forestVerified_ok (w : World) (R N K Ap Kp Vp Aq Kq Vq : Option Addr) (r n k : List UInt8) (p q : Pf) (rc nc kc np ap bp nq aq bq : Nat) (hr : Bs All w R r) (hn : Bs All w N n) (hk : Bs All w K k) (h1p : Sts All w Ap p.steps) (h2p : Bs All w Kp p.pair.1) (h3p : Bs All w Vp p.pair.2) (hstp : p.steps.length * 40 ≤ 140737488355328) (hl1p : p.pair.1.length ≤ big) (hl2p : p.pair.2.length ≤ big) (h1q : Sts All w Aq q.steps) (h2q : Bs All w Kq q.pair.1) (h3q : Bs All w Vq q.pair.2) (hstq : q.steps.length * 40 ≤ 140737488355328) (hl1q : q.pair.1.length ≤ big) (hl2q : q.pair.2.length ≤ big) (hnb : n.length ≤ big) :
    Calls Tryd.prog 11 #[.slice R r.length rc, .slice N n.length nc, .slice K k.length kc, .agg #[.bool p.empty, .slice Ap p.steps.length np, .slice Kp p.pair.1.length ap, .slice Vp p.pair.2.length bp], .agg #[.bool q.empty, .slice Aq q.steps.length nq, .slice Kq q.pair.1.length aq, .slice Vq q.pair.2.length bq]] w (RetGet w (fvS r n k p q)) := by
  have Hr := Lib.hid hr
  have Hn := Lib.hid hn
  have Hk := Lib.hid hk
  have H1p := Lib.hid h1p
  have H2p := Lib.hid h2p
  have H3p := Lib.hid h3p
  have H1q := Lib.hid h1q
  have H2q := Lib.hid h2q
  have H3q := Lib.hid h3q
  have Hb := Lib.hid (fun (W : World) (hW : Below (w.heap.size + 3) (((w.alloc (.cells #[.bool p.empty, .slice Ap p.steps.length np, .slice Kp p.pair.1.length ap, .slice Vp p.pair.2.length bp] 27)).alloc (.cells #[.bool q.empty, .slice Aq q.steps.length nq, .slice Kq q.pair.1.length aq, .slice Vq q.pair.2.length bq] 27)).alloc (.cells #[.bool false, .slice none 0 0] 29)) W) => show (W.cell? ⟨w.heap.size, 0, none⟩ = some (.bool p.empty) ∧ W.cell? ⟨w.heap.size, 1, none⟩ = some (.slice Ap p.steps.length np) ∧ W.cell? ⟨w.heap.size, 2, none⟩ = some (.slice Kp p.pair.1.length ap) ∧ W.cell? ⟨w.heap.size, 3, none⟩ = some (.slice Vp p.pair.2.length bp) ∧ True) ∧ (W.cell? ⟨w.heap.size + 1, 0, none⟩ = some (.bool q.empty) ∧ W.cell? ⟨w.heap.size + 1, 1, none⟩ = some (.slice Aq q.steps.length nq) ∧ W.cell? ⟨w.heap.size + 1, 2, none⟩ = some (.slice Kq q.pair.1.length aq) ∧ W.cell? ⟨w.heap.size + 1, 3, none⟩ = some (.slice Vq q.pair.2.length bq) ∧ True) ∧ (W.cell? ⟨w.heap.size + 1 + 1, 0, none⟩ = some (.bool false) ∧ W.cell? ⟨w.heap.size + 1 + 1, 1, none⟩ = some (.slice none 0 0) ∧ ¬ W.frozen? ⟨w.heap.size + 1 + 1, 0, none⟩ = true ∧ ¬ W.frozen? ⟨w.heap.size + 1 + 1, 1, none⟩ = true) ∧ Below w.heap.size w W ∧ w.heap.size < W.heap.size ∧ w.heap.size + 1 < W.heap.size ∧ w.heap.size + 1 + 1 < W.heap.size from by
    obtain ⟨t1, t2, t3, t4, t5⟩ := three_new w (.cells #[.bool p.empty, .slice Ap p.steps.length np, .slice Kp p.pair.1.length ap, .slice Vp p.pair.2.length bp] 27) (.cells #[.bool q.empty, .slice Aq q.steps.length nq, .slice Kq q.pair.1.length aq, .slice Vq q.pair.2.length bq] 27) (.cells #[.bool false, .slice none 0 0] 29)
    obtain ⟨z0, z1, z2, z3, _⟩ := box4p ((hW.block w.heap.size (by omega)).trans t1)
    obtain ⟨y0, y1, y2, y3, _⟩ := box4p ((hW.block (w.heap.size + 1) (by omega)).trans t2)
    obtain ⟨x0, x1, x2, x3⟩ := box2 ((hW.block (w.heap.size + 1 + 1) (by omega)).trans t3)
    have hs := hW.size
    exact ⟨⟨z0, z1, z2, z3, trivial⟩, ⟨y0, y1, y2, y3, trivial⟩, ⟨x0, x1, by simp [x2], by simp [x3]⟩, t5.trans (hW.mono (by omega)), by omega, by omega, by omega⟩)
  clear hr hn hk h1p h2p h3p h1q h2q h3q
  obtain ⟨nf, hnf⟩ : ∃ nf, nameFault n = nf := ⟨_, rfl⟩
  have Hnf := Lib.hid hnf
  by_cases hz : nf = 0
  · subst hz
    obtain ⟨⟨fb, fv⟩, e, hv⟩ : ∃ (f : Finding) (e : Int), verifyS r n p = (f, e) := ⟨_, _, rfl⟩
    have Hv := Lib.hid hv
    by_cases he : e = 0
    · subst he
      cases fb with
      | true =>
        obtain ⟨g, i, hg⟩ : ∃ (g : Finding) (i : Int), verifyS fv k q = (g, i) := ⟨_, _, rfl⟩
        have Hg := Lib.hid hg
        have Hf := Lib.hid (show fvS r n k p q = (g, i) by unfold fvS; rw [if_neg (by rw [hnf]; simp), hv, if_neg (by simp)]; exact hg)
        clear hnf hv hg
        go_enter Tryd.func11, Tryd.ntmps11
        go_wp2_with (first
          | (go_at_call 34; refine (nameFault_ok _ N n nc).mono ?_; rintro e0 w0 ⟨rfl, rfl⟩; rw [Hnf.out])
          | (go_at_call 35; (with_reducible refine (verified_ok _ R N Ap Kp Vp r n p rc nc np ap bp ?t1 ?t2 ?t3 ?t4 ?t5 hstp hl1p hl2p).mono ?_); (case t1 => (refine Hr.out.bbelow ?_; repeat' (first | exact Below.refl _ _ | assumption | refine Below.drew ?_ | refine below_drewN ?_ _ | refine Below.setCell ?_ (by first | (simp; done) | omega | (simp; omega)) _ | refine Below.alloc ?_ (by first | exact Nat.le_refl _ | omega | (simp; done) | (simp; omega)) _))); (case t2 => (refine Hn.out.bbelow ?_; repeat' (first | exact Below.refl _ _ | assumption | refine Below.drew ?_ | refine below_drewN ?_ _ | refine Below.setCell ?_ (by first | (simp; done) | omega | (simp; omega)) _ | refine Below.alloc ?_ (by first | exact Nat.le_refl _ | omega | (simp; done) | (simp; omega)) _))); (case t3 => (refine H1p.out.below stR_stays ?_; repeat' (first | exact Below.refl _ _ | assumption | refine Below.drew ?_ | refine below_drewN ?_ _ | refine Below.setCell ?_ (by first | (simp; done) | omega | (simp; omega)) _ | refine Below.alloc ?_ (by first | exact Nat.le_refl _ | omega | (simp; done) | (simp; omega)) _))); (case t4 => (refine H2p.out.bbelow ?_; repeat' (first | exact Below.refl _ _ | assumption | refine Below.drew ?_ | refine below_drewN ?_ _ | refine Below.setCell ?_ (by first | (simp; done) | omega | (simp; omega)) _ | refine Below.alloc ?_ (by first | exact Nat.le_refl _ | omega | (simp; done) | (simp; omega)) _))); (case t5 => (refine H3p.out.bbelow ?_; repeat' (first | exact Below.refl _ _ | assumption | refine Below.drew ?_ | refine below_drewN ?_ _ | refine Below.setCell ?_ (by first | (simp; done) | omega | (simp; omega)) _ | refine Below.alloc ?_ (by first | exact Nat.le_refl _ | omega | (simp; done) | (simp; omega)) _))); rw [Hv.out]; rintro e1 w1 ⟨F, fc, rfl, hsf, hb1'⟩; have hb1 := hb1'.mono (show w.heap.size + 3 ≤ _ by simp); obtain ⟨⟨p01, p11, p21, p31, _⟩, ⟨q01, q11, q21, q31, _⟩, ⟨f01, f11, f21, f31⟩, hq1, hl1a, hl1b, hl1c⟩ := Hb.out w1 hb1)
          | (go_at_call 35; (with_reducible refine (verified_ok _ F K Aq Kq Vq fv k q fc kc nq aq bq ?t1 ?t2 ?t3 ?t4 ?t5 hstq hl1q hl2q).mono ?_); (case t1 => (refine (hsf.bbelow ?_).bz; first | exact hq1.alloc hq1.size _ | exact (Below.refl _ _).alloc (Nat.le_refl _) _)); (case t2 => (refine Hk.out.bbelow ?_; first | exact hq1.alloc hq1.size _ | exact (Below.refl _ _).alloc (Nat.le_refl _) _)); (case t3 => (refine H1q.out.below stR_stays ?_; first | exact hq1.alloc hq1.size _ | exact (Below.refl _ _).alloc (Nat.le_refl _) _)); (case t4 => (refine H2q.out.bbelow ?_; first | exact hq1.alloc hq1.size _ | exact (Below.refl _ _).alloc (Nat.le_refl _) _)); (case t5 => (refine H3q.out.bbelow ?_; first | exact hq1.alloc hq1.size _ | exact (Below.refl _ _).alloc (Nat.le_refl _) _)); rw [Hg.out]; rintro e2 w2 ⟨G, gc, rfl, hsg, hb2'⟩; have hb2 := (hb1.alloc (by omega) _).next hb2' (by simp; omega); obtain ⟨⟨p02, p12, p22, p32, _⟩, ⟨q02, q12, q22, q32, _⟩, ⟨f02, f12, f22, f32⟩, hq2, hl2a, hl2b, hl2c⟩ := Hb.out w2 hb2))
        all_goals
          refine bodyPost_ret (v := .tuple #[.agg #[.bool g.1, .slice G g.2.length gc], .int .i64 i]) (by simp [results, Tryd.results11, go_sem, f02, f12, hl2c]) rfl ?_
          rw [Hf.out]
          refine ⟨G, gc, rfl, ?_, ?_⟩
          · exact (hsg.bsame ((((Same.refl _ _).setCell (fun h => by simp only [From] at h; first | omega | (simp at h; done) | (simp at h; omega)) _).setCell (fun h => by simp only [From] at h; first | omega | (simp at h; done) | (simp at h; omega)) _).alloc _)).blo (by first | omega | exact hq3.size | exact (hq1.alloc hq1.size _).size | (simp; omega))
          · exact set2a hq2 (by omega)
      | false =>
        obtain ⟨g, i, hg⟩ : ∃ (g : Finding) (i : Int), verifyS noneS k q = (g, i) := ⟨_, _, rfl⟩
        have Hg := Lib.hid hg
        have Hf := Lib.hid (show fvS r n k p q = (g, i) by unfold fvS; rw [if_neg (by rw [hnf]; simp), hv, if_neg (by simp)]; exact hg)
        clear hnf hv hg
        go_enter Tryd.func11, Tryd.ntmps11
        go_wp2_with (first
          | (go_at_call 34; refine (nameFault_ok _ N n nc).mono ?_; rintro e0 w0 ⟨rfl, rfl⟩; rw [Hnf.out])
          | (go_at_call 35; (with_reducible refine (verified_ok _ R N Ap Kp Vp r n p rc nc np ap bp ?t1 ?t2 ?t3 ?t4 ?t5 hstp hl1p hl2p).mono ?_); (case t1 => (refine Hr.out.bbelow ?_; repeat' (first | exact Below.refl _ _ | assumption | refine Below.drew ?_ | refine below_drewN ?_ _ | refine Below.setCell ?_ (by first | (simp; done) | omega | (simp; omega)) _ | refine Below.alloc ?_ (by first | exact Nat.le_refl _ | omega | (simp; done) | (simp; omega)) _))); (case t2 => (refine Hn.out.bbelow ?_; repeat' (first | exact Below.refl _ _ | assumption | refine Below.drew ?_ | refine below_drewN ?_ _ | refine Below.setCell ?_ (by first | (simp; done) | omega | (simp; omega)) _ | refine Below.alloc ?_ (by first | exact Nat.le_refl _ | omega | (simp; done) | (simp; omega)) _))); (case t3 => (refine H1p.out.below stR_stays ?_; repeat' (first | exact Below.refl _ _ | assumption | refine Below.drew ?_ | refine below_drewN ?_ _ | refine Below.setCell ?_ (by first | (simp; done) | omega | (simp; omega)) _ | refine Below.alloc ?_ (by first | exact Nat.le_refl _ | omega | (simp; done) | (simp; omega)) _))); (case t4 => (refine H2p.out.bbelow ?_; repeat' (first | exact Below.refl _ _ | assumption | refine Below.drew ?_ | refine below_drewN ?_ _ | refine Below.setCell ?_ (by first | (simp; done) | omega | (simp; omega)) _ | refine Below.alloc ?_ (by first | exact Nat.le_refl _ | omega | (simp; done) | (simp; omega)) _))); (case t5 => (refine H3p.out.bbelow ?_; repeat' (first | exact Below.refl _ _ | assumption | refine Below.drew ?_ | refine below_drewN ?_ _ | refine Below.setCell ?_ (by first | (simp; done) | omega | (simp; omega)) _ | refine Below.alloc ?_ (by first | exact Nat.le_refl _ | omega | (simp; done) | (simp; omega)) _))); rw [Hv.out]; rintro e1 w1 ⟨F, fc, rfl, hsf, hb1'⟩; have hb1 := hb1'.mono (show w.heap.size + 3 ≤ _ by simp); obtain ⟨⟨p01, p11, p21, p31, _⟩, ⟨q01, q11, q21, q31, _⟩, ⟨f01, f11, f21, f31⟩, hq1, hl1a, hl1b, hl1c⟩ := Hb.out w1 hb1)
          | (go_at_call 36; refine (noneDigest_ok _).mono ?_; rintro e3 w3 ⟨F3, fc3, rfl, hs3, hb3'⟩; have hb3 := (hb1.alloc (by omega) _).next hb3' (by simp; omega); obtain ⟨⟨p03, p13, p23, p33, _⟩, ⟨q03, q13, q23, q33, _⟩, ⟨f03, f13, f23, f33⟩, hq3, hl3a, hl3b, hl3c⟩ := Hb.out w3 hb3; have hx3 := (hb3'.block w1.heap.size (by simp)).trans (box_new w1 _ _); obtain ⟨x0, x1, _, _⟩ := box2 hx3; have hlx := (Array.getElem?_eq_some_iff.1 hx3).1)
          | (go_at_call 35; (with_reducible refine (verified_ok _ F3 K Aq Kq Vq noneS k q fc3 kc nq aq bq ?t1 ?t2 ?t3 ?t4 ?t5 hstq hl1q hl2q).mono ?_); (case t1 => (refine hs3.bz.bbelow ?_; first | exact hq3 | exact Below.refl _ _)); (case t2 => (refine Hk.out.bbelow ?_; first | exact hq3 | exact Below.refl _ _)); (case t3 => (refine H1q.out.below stR_stays ?_; first | exact hq3 | exact Below.refl _ _)); (case t4 => (refine H2q.out.bbelow ?_; first | exact hq3 | exact Below.refl _ _)); (case t5 => (refine H3q.out.bbelow ?_; first | exact hq3 | exact Below.refl _ _)); rw [Hg.out]; rintro e2 w2 ⟨G, gc, rfl, hsg, hb2'⟩; have hb2 := hb3.next hb2' (by omega); obtain ⟨⟨p02, p12, p22, p32, _⟩, ⟨q02, q12, q22, q32, _⟩, ⟨f02, f12, f22, f32⟩, hq2, hl2a, hl2b, hl2c⟩ := Hb.out w2 hb2))
        all_goals
          refine bodyPost_ret (v := .tuple #[.agg #[.bool g.1, .slice G g.2.length gc], .int .i64 i]) (by simp [results, Tryd.results11, go_sem, f02, f12, hl2c]) rfl ?_
          rw [Hf.out]
          refine ⟨G, gc, rfl, ?_, ?_⟩
          · exact (hsg.bsame ((((Same.refl _ _).setCell (fun h => by simp only [From] at h; first | omega | (simp at h; done) | (simp at h; omega)) _).setCell (fun h => by simp only [From] at h; first | omega | (simp at h; done) | (simp at h; omega)) _).alloc _)).blo (by first | omega | exact hq3.size | exact (hq1.alloc hq1.size _).size | (simp; omega))
          · exact set2a hq2 (by omega)
    · have Hf := Lib.hid (show fvS r n k p q = ((false, []), e) by unfold fvS; rw [if_neg (by rw [hnf]; simp), hv, if_pos (by simpa using he)])
      have hb : (e != 0) = true := by simpa using he
      clear hnf hv
      go_enter Tryd.func11, Tryd.ntmps11
      go_wp2_with (first
        | (go_at_call 34; refine (nameFault_ok _ N n nc).mono ?_; rintro e0 w0 ⟨rfl, rfl⟩; rw [Hnf.out])
        | (go_at_call 35; (with_reducible refine (verified_ok _ R N Ap Kp Vp r n p rc nc np ap bp ?t1 ?t2 ?t3 ?t4 ?t5 hstp hl1p hl2p).mono ?_); (case t1 => (refine Hr.out.bbelow ?_; repeat' (first | exact Below.refl _ _ | assumption | refine Below.drew ?_ | refine below_drewN ?_ _ | refine Below.setCell ?_ (by first | (simp; done) | omega | (simp; omega)) _ | refine Below.alloc ?_ (by first | exact Nat.le_refl _ | omega | (simp; done) | (simp; omega)) _))); (case t2 => (refine Hn.out.bbelow ?_; repeat' (first | exact Below.refl _ _ | assumption | refine Below.drew ?_ | refine below_drewN ?_ _ | refine Below.setCell ?_ (by first | (simp; done) | omega | (simp; omega)) _ | refine Below.alloc ?_ (by first | exact Nat.le_refl _ | omega | (simp; done) | (simp; omega)) _))); (case t3 => (refine H1p.out.below stR_stays ?_; repeat' (first | exact Below.refl _ _ | assumption | refine Below.drew ?_ | refine below_drewN ?_ _ | refine Below.setCell ?_ (by first | (simp; done) | omega | (simp; omega)) _ | refine Below.alloc ?_ (by first | exact Nat.le_refl _ | omega | (simp; done) | (simp; omega)) _))); (case t4 => (refine H2p.out.bbelow ?_; repeat' (first | exact Below.refl _ _ | assumption | refine Below.drew ?_ | refine below_drewN ?_ _ | refine Below.setCell ?_ (by first | (simp; done) | omega | (simp; omega)) _ | refine Below.alloc ?_ (by first | exact Nat.le_refl _ | omega | (simp; done) | (simp; omega)) _))); (case t5 => (refine H3p.out.bbelow ?_; repeat' (first | exact Below.refl _ _ | assumption | refine Below.drew ?_ | refine below_drewN ?_ _ | refine Below.setCell ?_ (by first | (simp; done) | omega | (simp; omega)) _ | refine Below.alloc ?_ (by first | exact Nat.le_refl _ | omega | (simp; done) | (simp; omega)) _))); rw [Hv.out]; rintro e1 w1 ⟨F, fc, rfl, hsf, hb1'⟩; have hb1 := hb1'.mono (show w.heap.size + 3 ≤ _ by simp); obtain ⟨⟨p01, p11, p21, p31, _⟩, ⟨q01, q11, q21, q31, _⟩, ⟨f01, f11, f21, f31⟩, hq1, hl1a, hl1b, hl1c⟩ := Hb.out w1 hb1))
      all_goals
        refine bodyPost_ret (v := .tuple #[.agg #[.bool false, .slice none 0 0], .int .i64 e]) (by simp [results, Tryd.results11, go_sem, f01, f11, hl1c]) rfl ?_
        rw [Hf.out]
        exact ⟨none, 0, rfl, SL.nil, by first | assumption | exact set2a hq1 (by omega) | exact (((Below.refl _ _).alloc (Nat.le_refl _) _).alloc (by simp) _).alloc (by simp; omega) _⟩
  · have Hf := Lib.hid (show fvS r n k p q = ((false, []), nf) by unfold fvS; rw [if_pos (by rw [hnf]; exact hz), hnf])
    have hb : (nf != 0) = true := by simpa using hz
    clear hnf
    go_enter Tryd.func11, Tryd.ntmps11
    go_wp2_with (go_at_call 34; refine (nameFault_ok _ N n nc).mono ?_; rintro e0 w0 ⟨rfl, rfl⟩; rw [Hnf.out])
    all_goals
      refine bodyPost_ret (v := .tuple #[.agg #[.bool false, .slice none 0 0], .int .i64 nf]) (by simp [results, Tryd.results11, go_sem]) rfl ?_
      rw [Hf.out]
      exact ⟨none, 0, rfl, SL.nil, by first | assumption | exact set2a hq1 (by omega) | exact (((Below.refl _ _).alloc (Nat.le_refl _) _).alloc (by simp) _).alloc (by simp; omega) _⟩
end Go.Proofs.YteacjkihjeiafaaDoor
