/- TapeD: The law TapeAppends: its walk. The conditions of each are in its words. -/
import Derived.Test.YteacjkihjeiafaaDoorKTapeC
namespace Go.Proofs.YteacjkihjeiafaaDoor
open Go.RowKit
set_option linter.unusedVariables false
set_option linter.unusedSimpArgs false

theorem two_newT (w : World) (a b : Obj) : ((w.alloc a).alloc b).heap[w.heap.size]? = some a ∧ ((w.alloc a).alloc b).heap[w.heap.size + 1]? = some b ∧ ((w.alloc a).alloc b).heap.size = w.heap.size + 2 ∧ Below w.heap.size w ((w.alloc a).alloc b) := by
  refine ⟨?_, ?_, by simp, ((Below.refl _ _).alloc (Nat.le_refl _) _).alloc (by simp) _⟩
  · rw [alloc_oldT _ _ (by simp), alloc_newT]
  · have := alloc_newT (w.alloc a) b
    simpa using this
theorem abs2t {P : World → Prop} (W : World) (h : ∀ WF, W = WF → P WF) : P W := h W rfl
/-- A tape in a variable of its own. -/
structure TpF (w0 WF : World) (G : Nat) (A5 : Option Addr) (c5 : Nat) (f : Tp) : Prop where
  b : Below w0.heap.size w0 WF
  g : WF.heap[G]? = some (.cells #[.slice A5 f.1.length c5, .int .i64 f.2] 45 (0, 0))
  s : Bs All WF A5 f.1
set_option maxRecDepth 100000 in
set_option maxHeartbeats 1000000 in
theorem tapeAppends_walk (w : World) (hT : TabsAt w) {cl : List Value} {t : Tp} (h : TapeR All w cl t) {cm : List Value} {y : Cm} (h' : CmR All w cm y) :
    Calls Tryd.prog 5 #[.agg cl.toArray, .agg cm.toArray] w (RetV w (.bool true)) := by
  obtain ⟨A, c, rfl, hcap, ha, h1⟩ := h
  obtain ⟨V, n, rfl, hs, h80⟩ := h'
  obtain ⟨x, l⟩ := y
  dsimp only at *
  have hll : l.length ≤ big := by unfold big; omega
  obtain ⟨rf, ri, hv⟩ : ∃ (rf : Tp) (ri : Int), appendS t (x, l) = (rf, ri) := ⟨_, _, rfl⟩
  have Hv := Lib.hid hv
  obtain ⟨t1, t2, t3, t4⟩ := two_newT w (.cells #[.slice A t.1.length c, .int .i64 t.2] 45) (.cells #[.int .i64 x, .slice V l.length n] 48)
  have Ht1 := Lib.hid t1
  have Ht2 := Lib.hid t2
  have Hz := Lib.hid t4
  have HT := Lib.hid (hT.below t4)
  have Ha := Lib.hid (ha.bbelow t4)
  have Hs := Lib.hid (hs.below wrR_stays t4)
  clear hT ha hs hv hcap t1 t2 t4
  go_enter Tryd.func5, Tryd.ntmps5
  go_wp2_with (go_at_call 18; (with_reducible refine (tapes_ok _ A t c Ha.out h1).mono ?_); rintro e w1 ⟨A1, c1, rfl, _, hs1, hb1⟩)
  have hz1 := hb1.size
  have k1 := (hb1.block w.heap.size (by omega)).trans Ht1.out
  have k2 := (hb1.block (w.heap.size + 1) (by omega)).trans Ht2.out
  have hq0 : Below w.heap.size w (w1.alloc (.cells #[.slice A1 t.1.length c1, .int .i64 t.2] 45)) := (Hz.out.next hb1 Hz.out.size).alloc (Hz.out.next hb1 Hz.out.size).size _
  have m1 := (alloc_oldT w1 (.cells #[.slice A1 t.1.length c1, .int .i64 t.2] 45) (by omega)).trans k1
  have m2 := (alloc_oldT w1 (.cells #[.slice A1 t.1.length c1, .int .i64 t.2] 45) (by omega)).trans k2
  have m3 := box_new w1 #[.slice A1 t.1.length c1, .int .i64 t.2] 45
  have hw0 : w1.heap.size < (w1.alloc (.cells #[.slice A1 t.1.length c1, .int .i64 t.2] 45)).heap.size := by simp
  have HT0 := Lib.hid ((HT.out.below hb1).below ((Below.refl w1.heap.size w1).alloc (Nat.le_refl _) (.cells #[.slice A1 t.1.length c1, .int .i64 t.2] 45)))
  have Ha0 := Lib.hid ((Ha.out.bbelow hb1).bbelow ((Below.refl w1.heap.size w1).alloc (Nat.le_refl _) (.cells #[.slice A1 t.1.length c1, .int .i64 t.2] 45)))
  have Hs0 := Lib.hid ((Hs.out.below wrR_stays hb1).below wrR_stays ((Below.refl w1.heap.size w1).alloc (Nat.le_refl _) (.cells #[.slice A1 t.1.length c1, .int .i64 t.2] 45)))
  have Hd0 := Lib.hid (hs1.bz.bbelow ((Below.refl w1.heap.size w1).alloc (Nat.le_refl _) (.cells #[.slice A1 t.1.length c1, .int .i64 t.2] 45)))
  have hwt : w.heap.size < w1.heap.size := by omega
  have hwc : w.heap.size + 1 < w1.heap.size := by omega
  clear hb1 hs1 k1 k2 t3 hz1
  generalize w1.alloc (.cells #[.slice A1 t.1.length c1, .int .i64 t.2] 45) = w0 at *
  have hwt0 : w.heap.size < w0.heap.size := by omega
  have hwc0 : w.heap.size + 1 < w0.heap.size := by omega
  obtain ⟨p0, p1, _, _⟩ := box2 m2
  obtain ⟨q0, q1, _, _⟩ := box2 m3
  have M1 := Lib.hid m1
  have M2 := Lib.hid m2
  have M3 := Lib.hid m3
  have Hq0 := Lib.hid hq0
  clear m1 m2 m3 hq0
  go_region_held3 (fun w' => w'.cell? ⟨w.heap.size + 1, 0, none⟩ = some (.int .i64 x) ∧ w'.cell? ⟨w.heap.size + 1, 1, none⟩ = some (.slice V l.length n) ∧ w'.cell? ⟨w1.heap.size, 0, none⟩ = some (.slice A1 t.1.length c1) ∧ w'.cell? ⟨w1.heap.size, 1, none⟩ = some (.int .i64 t.2))
    (first
      | go_keep
      | exact ⟨((H2.out).cell hwc0).trans p0, ((H2.out).cell hwc0).trans p1, ((H2.out).cell hw0).trans q0, ((H2.out).cell hw0).trans q1⟩
      | exact ⟨(((H2.out.alloc H2.out.size _)).cell hwc0).trans p0, (((H2.out.alloc H2.out.size _)).cell hwc0).trans p1, (((H2.out.alloc H2.out.size _)).cell hw0).trans q0, (((H2.out.alloc H2.out.size _)).cell hw0).trans q1⟩
      | exact ⟨((((H2.out.setCell hz.2 _).setCell hz.2 _)).cell hwc0).trans p0, ((((H2.out.setCell hz.2 _).setCell hz.2 _)).cell hwc0).trans p1, ((((H2.out.setCell hz.2 _).setCell hz.2 _)).cell hw0).trans q0, ((((H2.out.setCell hz.2 _).setCell hz.2 _)).cell hw0).trans q1⟩
      | exact ⟨((H1.out).cell hwc0).trans p0, ((H1.out).cell hwc0).trans p1, ((H1.out).cell hw0).trans q0, ((H1.out).cell hw0).trans q1⟩
      | exact ⟨(((H1.out.alloc H1.out.size _)).cell hwc0).trans p0, (((H1.out.alloc H1.out.size _)).cell hwc0).trans p1, (((H1.out.alloc H1.out.size _)).cell hw0).trans q0, (((H1.out.alloc H1.out.size _)).cell hw0).trans q1⟩
      | exact ⟨((((H1.out.setCell hz.2 _).setCell hz.2 _)).cell hwc0).trans p0, ((((H1.out.setCell hz.2 _).setCell hz.2 _)).cell hwc0).trans p1, ((((H1.out.setCell hz.2 _).setCell hz.2 _)).cell hw0).trans q0, ((((H1.out.setCell hz.2 _).setCell hz.2 _)).cell hw0).trans q1⟩
      | exact ⟨((((Below.refl w0.heap.size w0).drew.alloc (by simp) _)).cell hwc0).trans p0, ((((Below.refl w0.heap.size w0).drew.alloc (by simp) _)).cell hwc0).trans p1, ((((Below.refl w0.heap.size w0).drew.alloc (by simp) _)).cell hw0).trans q0, ((((Below.refl w0.heap.size w0).drew.alloc (by simp) _)).cell hw0).trans q1⟩)
    (first
      | (go_at_call 20; (with_reducible refine (commit_ok _ V x l n ?hx h80).mono ?_); (case hx => (refine Hs0.out.same wrR_stays ?_; repeat' (first | exact Same.refl _ _ | assumption | refine Same.drew ?_ | refine Same.drewN ?_ _ | refine Same.alloc ?_ _ | refine Same.setCell ?_ (fun hq => by simp only [From] at hq; first | omega | (simp at hq; done) | (simp at hq; omega)) _))); rintro e v1 ⟨V1, n1, rfl, _, cs, hb1⟩; have H1 := Lib.hid (show Below w0.heap.size w0 v1 from (by first | exact (Below.refl w0.heap.size w0).drew.next hb1 (by simp) | exact ((Below.refl w0.heap.size w0).drew.alloc (by simp) _).next hb1 (by have hq9 := (Below.refl w0.heap.size w0).drew.size; first | (simp; done) | (simp; omega) | (simp at hq9 ⊢; omega)))); (try (have hz' := And.intro ((hb1.block _ (Array.getElem?_eq_some_iff.1 hz.1).1).trans hz.1) hz.2; clear hz; have hz := hz')); (try (have hz := And.intro (show v1.heap[w0.heap.size]? = some (.cells #[.slice none 0 0, .int .i64 0] 45 (0, 0)) from (hb1.block w0.heap.size (by first | (simp; done) | omega | (simp; omega))).trans (box_new w0.drew _ _)) (show w0.heap.size ≤ w0.heap.size from (by first | exact Nat.le_refl _ | (have := (Below.refl w0.heap.size w0).size; omega))))); (try (have hz4l := (Array.getElem?_eq_some_iff.1 hz.1).1)); have Cs := Lib.hid (cs.z wrR_stays); clear cs)
      | (go_at_call 19; (with_reducible refine (tapeAppend_ok _ ?g0 A1 V1 t (x, l) c1 n1 ?g1 ?g2 h80).mono ?_); (case g0 => (refine HT0.out.below ?_; first | exact H1.out | exact H1.out.alloc H1.out.size _ | exact H1.out.drew)); (case g1 => (refine (Hd0.out.bbelow H1.out).bsame ?_; repeat' (first | exact Same.refl _ _ | assumption | refine Same.drew ?_ | refine Same.drewN ?_ _ | refine Same.alloc ?_ _ | refine Same.setCell ?_ (fun hq => by simp only [From] at hq; first | omega | (simp at hq; done) | (simp at hq; omega)) _))); (case g2 => (refine Cs.out.same wrR_stays ?_; repeat' (first | exact Same.refl _ _ | assumption | refine Same.drew ?_ | refine Same.drewN ?_ _ | refine Same.alloc ?_ _ | refine Same.setCell ?_ (fun hq => by simp only [From] at hq; first | omega | (simp at hq; done) | (simp at hq; omega)) _))); rw [Hv.out]; rintro e v2 ⟨A5, c5, rfl, _, fs, hb2⟩; have H2 := Lib.hid (show Below w0.heap.size w0 v2 from (by first | exact H1.out.next hb2 H1.out.size | exact (H1.out.alloc H1.out.size _).next hb2 (by have hq9 := H1.out.size; first | (simp; done) | (simp; omega) | (simp at hq9 ⊢; omega)))); (try (have hz' := And.intro ((hb2.block _ (Array.getElem?_eq_some_iff.1 hz.1).1).trans hz.1) hz.2; clear hz; have hz := hz')); (try (have hz := And.intro (show v2.heap[v1.heap.size]? = some (.cells #[.slice none 0 0, .int .i64 0] 45 (0, 0)) from (hb2.block v1.heap.size (by first | (simp; done) | omega | (simp; omega))).trans (box_new v1 _ _)) (show w0.heap.size ≤ v1.heap.size from (by first | exact Nat.le_refl _ | (have := H1.out.size; omega))))); have Rs5 := Lib.hid fs; clear fs; (try (obtain ⟨e0, e1, e2, e3⟩ := box2 hz.1; have hzl := (Array.getElem?_eq_some_iff.1 hz.1).1))))
  all_goals
    first
      | (have hzc := Lib.hid (show v2.heap[w0.heap.size]? = some (.cells #[.slice none 0 0, .int .i64 0] 45 (0, 0)) from hz.1); have HF1 := Lib.hid (show TpF w0 ((v2.setCell ⟨w0.heap.size, 0, none⟩ (.slice A5 rf.1.length c5)).setCell ⟨w0.heap.size, 1, none⟩ (.int .i64 rf.2)) (w0.heap.size) A5 c5 rf from ⟨(H2.out.setCell hz.2 _).setCell hz.2 _, (by rw [heap_setCell_same _ _ _ _ _ _ (heap_setCell_same _ _ _ _ _ _ hz.1)]; rfl), (by refine ((Rs5.out.bless (S' := fun b => b ≠ w0.heap.size) fun b hb h => ?_).bsame (((Same.refl _ _).setCell (fun h => h rfl) _).setCell (fun h => h rfl) _)).bz; (have h' := h; simp only [From] at h'; (try simp at h'); have := H1.out.size; omega))⟩); have HF0 := HF1.out; refine abs2t (P := fun X => Exit.then _ _ _ _ X) _ ?_; intro WF hWF; have HF := Lib.hid (show TpF w0 WF (w0.heap.size) A5 c5 rf by rw [← hWF]; exact HF0); clear HF0 hWF)
      | (have hzc := Lib.hid (show v2.heap[v1.heap.size]? = some (.cells #[.slice none 0 0, .int .i64 0] 45 (0, 0)) from hz.1); have HF1 := Lib.hid (show TpF w0 ((v2.setCell ⟨v1.heap.size, 0, none⟩ (.slice A5 rf.1.length c5)).setCell ⟨v1.heap.size, 1, none⟩ (.int .i64 rf.2)) (v1.heap.size) A5 c5 rf from ⟨(H2.out.setCell hz.2 _).setCell hz.2 _, (by rw [heap_setCell_same _ _ _ _ _ _ (heap_setCell_same _ _ _ _ _ _ hz.1)]; rfl), (by refine ((Rs5.out.bless (S' := fun b => b ≠ v1.heap.size) fun b hb h => ?_).bsame (((Same.refl _ _).setCell (fun h => h rfl) _).setCell (fun h => h rfl) _)).bz; (have h' := h; simp only [From] at h'; (try simp at h'); have := H1.out.size; omega))⟩); have HF0 := HF1.out; refine abs2t (P := fun X => Exit.then _ _ _ _ X) _ ?_; intro WF hWF; have HF := Lib.hid (show TpF w0 WF (v1.heap.size) A5 c5 rf by rw [← hWF]; exact HF0); clear HF0 hWF)
      | (have HF0 : TpF w0 (v2.alloc (.cells #[.slice A5 rf.1.length c5, .int .i64 rf.2] 45)) v2.heap.size A5 c5 rf := ⟨H2.out.alloc H2.out.size _, box_new v2 _ _, Rs5.out.bz.bsame ((Same.refl _ _).alloc _)⟩; refine abs2t (P := fun X => Exit.then _ _ _ _ X) _ ?_; intro WF hWF; have HF := Lib.hid (show TpF w0 WF v2.heap.size A5 c5 rf by rw [← hWF]; exact HF0); clear HF0 hWF)
  all_goals
    have Hb5 := HF.out.b
    have hlF := (Array.getElem?_eq_some_iff.1 HF.out.g).1
    have hs5 := Hb5.size
    have Hw5 := Lib.hid (Hq0.out.next Hb5 Hq0.out.size)
    clear p0 p1 q0 q1
    obtain ⟨s0, s1, _, _⟩ := box2 ((Hb5.block _ hwt0).trans M1.out)
    obtain ⟨p0, p1, _, _⟩ := box2 ((Hb5.block _ hwc0).trans M2.out)
    have Hbb := Lib.hid Hb5
    clear Hb5
    go_wp2_with (first
      | (go_at_call 21; (with_reducible refine (tapeAppended_ok _ A V t (x, l) c n (Ha0.out.bbelow Hbb.out) (Hs0.out.below wrR_stays Hbb.out) h80).mono ?_); rw [Hv.out]; rintro e v7 ⟨A7, c7, rfl, _, rs7, hb7⟩; have Rs7 := Lib.hid rs7.bz; have hs7 := hb7.size; obtain ⟨f0, f1, _, _⟩ := box2 ((hb7.block _ hlF).trans HF.out.g); have Hb7 := Lib.hid hb7; have hl7 := Nat.lt_of_lt_of_le hlF hs7; have hw7 : Below w.heap.size w v7 := Hw5.out.next hb7 Hw5.out.size; have H07 := Lib.hid (show Below w0.heap.size w0 v7 from Hbb.out.next hb7 Hbb.out.size); clear rs7 hb7)
      | (go_at_call 22; (with_reducible refine (sameTape_ok _ A5 A7 rf c5 c7 ((HF.out.s.bbelow Hb7.out).bbelow ((Below.refl _ _).alloc (Nat.le_refl _) _)) (Rs7.out.bbelow ((Below.refl _ _).alloc (Nat.le_refl _) _))).mono ?_); rintro e v8 ⟨rfl, hb8⟩; have hw8 : Below w.heap.size w v8 := (hw7.alloc hw7.size _).next hb8 (by have := hw7.size; simp; omega); have h78 : Below v7.heap.size v7 v8 := ((Below.refl _ _).alloc (Nat.le_refl _) _).trans (hb8.mono (by simp)); have H08 := Lib.hid (show Below w0.heap.size w0 v8 from H07.out.next h78 H07.out.size); obtain ⟨a0, a1, _, _⟩ := box2 ((H08.out.block _ hwt0).trans M1.out); obtain ⟨d0, d1, _, _⟩ := box2 ((H08.out.block _ hw0).trans M3.out))
      | (go_at_call 22; (with_reducible refine (sameTape_ok _ A1 A t c1 c (Hd0.out.bbelow H08.out) (Ha0.out.bbelow H08.out)).mono ?_); rintro e v9 ⟨rfl, hb9⟩; have hw9 := hw8.next hb9 hw8.size))
    all_goals
      go_ret
      exact ⟨by simp, hw9⟩
end Go.Proofs.YteacjkihjeiafaaDoor
