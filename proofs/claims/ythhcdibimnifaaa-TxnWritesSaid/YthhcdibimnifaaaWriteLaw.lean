/- Walk of the law TxnWrites. -/
import Derived.Test.YthhcdibimnifaaaTxnWrite
namespace Go.Proofs.Ythhcdibimnifaaa
open Go.RowKit
set_option linter.unusedVariables false
set_option linter.unusedSimpArgs false

theorem writeToS_len {t : Tx} {r : Wr} (h1 : t.reads.length + 1 ≤ 140737488355328) (h2 : t.writes.length + 1 ≤ 140737488355328) : (writeToS t r).1.reads.length ≤ big ∧ (writeToS t r).1.writes.length ≤ big := by
  unfold writeToS big zeroTx
  split
  · simp
  · split
    · simp
    · split
      · exact ⟨by dsimp only; omega, by simp; omega⟩
      · split
        · simp
        · exact ⟨by dsimp only; omega, by simp; omega⟩
theorem abs2 {P : World → Prop} (W : World) (h : ∀ WF, W = WF → P WF) : P W := h W rfl
/-- A transaction in a variable of its own. -/
structure TxF (w0 WF : World) (G : Nat) (A : Option Addr) (n : Nat) (B : Option Addr) (m : Nat) (x : Tx) : Prop where
  b : Below w0.heap.size w0 WF
  g : WF.heap[G]? = some (.cells #[.int .i64 x.start, .slice A x.reads.length n, .slice B x.writes.length m] 79 (0, 0))
  r : Ws All WF A x.reads
  s : Ws All WF B x.writes
set_option maxRecDepth 100000 in
set_option maxHeartbeats 20000000 in
theorem txnWrites_walk (w : World) {cl : List Value} {t : Tx} (h : TxR All w cl t) {cr : List Value} {r : Wr} (h' : WrR All w cr r) :
    Calls Try.prog 19 #[.agg cl.toArray, .agg cr.toArray] w (RetV w (.bool true)) := by
  obtain ⟨A, n, B, m, rfl, ha, hb, h1, h2, h3, h4⟩ := h
  obtain ⟨P, p, Q, q, V, v, rfl, hp, hq, hv, k1, k2, k3⟩ := h'
  have Ha := Lib.hid ha
  have Hb := Lib.hid hb
  have Hp := Lib.hid hp
  have Hq := Lib.hid hq
  have Hv := Lib.hid hv
  have hrl : t.reads.length ≤ big := by unfold big; omega
  have hwl : t.writes.length ≤ big := by unfold big; omega
  obtain ⟨x, ri, hr⟩ : ∃ (x : Tx) (ri : Int), writeToS t r = (x, ri) := ⟨_, _, rfl⟩
  obtain ⟨hxr, hxw⟩ := writeToS_len (t := t) (r := r) (by omega) (by omega)
  rw [hr] at hxr hxw
  have Hf := Lib.hid (show ∀ (W : World) (A B : Option Addr) (n m : Nat) (P Q V : Option Addr) (p q v : Nat), Ws All W A t.reads → Ws All W B t.writes → Bs All W P r.name → Bs All W Q r.key → Bs All W V r.value → t.reads.length ≤ n → t.writes.length ≤ m → Calls Try.prog 72 #[.agg #[.int .i64 t.start, .slice A t.reads.length n, .slice B t.writes.length m], .agg #[.slice P r.name.length p, .slice Q r.key.length q, .bool r.flag, .slice V r.value.length v]] W (RetTxE W (x, ri)) from fun W A B n m P Q V p q v g1 g2 g3 g4 g5 g6 g7 => by rw [← hr]; exact txnWrite_ok W A B t n m P Q V r p q v g1 g2 g3 g4 g5 k1 k2 k3 g6 g7)
  have Hg := Lib.hid (show ∀ (W : World), Ws All W A t.reads → Ws All W B t.writes → Bs All W P r.name → Bs All W Q r.key → Bs All W V r.value → Calls Try.prog 74 #[.agg #[.int .i64 t.start, .slice A t.reads.length n, .slice B t.writes.length m], .agg #[.slice P r.name.length p, .slice Q r.key.length q, .bool r.flag, .slice V r.value.length v]] W (RetTxE W (x, ri)) from fun W g1 g2 g3 g4 g5 => by rw [← hr]; exact writtenTo_ok W A B t n m P Q V r p q v g1 g2 g3 g4 g5 k1 k2 k3)
  clear ha hb hp hq hv h3 h4 hr
  obtain ⟨hx, hy, hsz, hbl⟩ := alloc2 w (.cells #[.int .i64 t.start, .slice A t.reads.length n, .slice B t.writes.length m] 79) (.cells #[.slice P r.name.length p, .slice Q r.key.length q, .bool r.flag, .slice V r.value.length v] 94)
  have Hx := Lib.hid hx
  have Hy := Lib.hid hy
  have Hbl := Lib.hid hbl
  have Hsz := Lib.hid hsz
  clear hx hy hbl hsz
  go_enter Try.func19, Try.ntmps19
  go_wp2_with (go_at_call 63; refine (txnCopy_ok _ A B t n m (Ha.out.below wrR_stays Hbl.out) (Hb.out.below wrR_stays Hbl.out) h1 h2).mono ?_; rintro e w1 ⟨A1, n1, B1, m1, rfl, hk1, hk2, hs1, hs2, hb1⟩; have hzz := Hsz.out; have hz1 : w.heap.size + 2 ≤ w1.heap.size := (by have hq1 := hb1.size; rw [hzz] at hq1; exact hq1); have Hx1 := Lib.hid ((hb1.block w.heap.size (by rw [hzz]; omega)).trans Hx.out); have Hy1 := Lib.hid ((hb1.block (w.heap.size + 1) (by rw [hzz]; omega)).trans Hy.out); have Hw1 := Lib.hid (Hbl.out.next hb1 (by rw [hzz]; omega)); have Hs1 := Lib.hid (hs1.z wrR_stays); have Hs2 := Lib.hid (hs2.z wrR_stays); clear hs1 hs2 hb1 hzz)
  have Hxc := Lib.hid ((heap_alloc_old w1 (.cells #[.int .i64 t.start, .slice A1 t.reads.length n1, .slice B1 t.writes.length m1] 79) (by omega)).trans Hx1.out)
  have Hyc := Lib.hid ((heap_alloc_old w1 (.cells #[.int .i64 t.start, .slice A1 t.reads.length n1, .slice B1 t.writes.length m1] 79) (by omega)).trans Hy1.out)
  have Hzc := Lib.hid (box_new w1 #[.int .i64 t.start, .slice A1 t.reads.length n1, .slice B1 t.writes.length m1] 79)
  have Hbc := Lib.hid (show Below w1.heap.size w1 (w1.alloc (.cells #[.int .i64 t.start, .slice A1 t.reads.length n1, .slice B1 t.writes.length m1] 79)) from (Below.refl _ _).alloc (Nat.le_refl _) _)
  have hsc : w1.heap.size < (w1.alloc (.cells #[.int .i64 t.start, .slice A1 t.reads.length n1, .slice B1 t.writes.length m1] 79)).heap.size := by simp
  generalize w1.alloc (.cells #[.int .i64 t.start, .slice A1 t.reads.length n1, .slice B1 t.writes.length m1] 79) = w0 at *
  have hw0 : w.heap.size < w0.heap.size := by omega
  have hw0' : w.heap.size + 1 < w0.heap.size := by omega
  have Hw0 := Lib.hid (Hw1.out.next Hbc.out (by omega))
  have Hs10 := Lib.hid (Hs1.out.below wrR_stays Hbc.out)
  have Hs20 := Lib.hid (Hs2.out.below wrR_stays Hbc.out)
  obtain ⟨c0, c1, c2, _⟩ := box3 Hzc.out
  obtain ⟨y0, y1, y2, y3, _⟩ := box4 Hyc.out
  go_region_held3 (fun w' => w'.cell? ⟨w1.heap.size, 0, none⟩ = some (.int .i64 t.start) ∧ w'.cell? ⟨w1.heap.size, 1, none⟩ = some (.slice A1 t.reads.length n1) ∧ w'.cell? ⟨w1.heap.size, 2, none⟩ = some (.slice B1 t.writes.length m1) ∧ w'.cell? ⟨w.heap.size + 1, 0, none⟩ = some (.slice P r.name.length p) ∧ w'.cell? ⟨w.heap.size + 1, 1, none⟩ = some (.slice Q r.key.length q) ∧ w'.cell? ⟨w.heap.size + 1, 2, none⟩ = some (.bool r.flag) ∧ w'.cell? ⟨w.heap.size + 1, 3, none⟩ = some (.slice V r.value.length v))
    (first
      | go_keep
      | exact ⟨(H3.out.cell hsc).trans c0, (H3.out.cell hsc).trans c1, (H3.out.cell hsc).trans c2, (H3.out.cell hw0').trans y0, (H3.out.cell hw0').trans y1, (H3.out.cell hw0').trans y2, (H3.out.cell hw0').trans y3⟩
      | exact ⟨((H3.out.alloc H3.out.size _).cell hsc).trans c0, ((H3.out.alloc H3.out.size _).cell hsc).trans c1, ((H3.out.alloc H3.out.size _).cell hsc).trans c2, ((H3.out.alloc H3.out.size _).cell hw0').trans y0, ((H3.out.alloc H3.out.size _).cell hw0').trans y1, ((H3.out.alloc H3.out.size _).cell hw0').trans y2, ((H3.out.alloc H3.out.size _).cell hw0').trans y3⟩
      | exact ⟨((((H3.out.setCell hz.2 _).setCell hz.2 _).setCell hz.2 _).cell hsc).trans c0, ((((H3.out.setCell hz.2 _).setCell hz.2 _).setCell hz.2 _).cell hsc).trans c1, ((((H3.out.setCell hz.2 _).setCell hz.2 _).setCell hz.2 _).cell hsc).trans c2, ((((H3.out.setCell hz.2 _).setCell hz.2 _).setCell hz.2 _).cell hw0').trans y0, ((((H3.out.setCell hz.2 _).setCell hz.2 _).setCell hz.2 _).cell hw0').trans y1, ((((H3.out.setCell hz.2 _).setCell hz.2 _).setCell hz.2 _).cell hw0').trans y2, ((((H3.out.setCell hz.2 _).setCell hz.2 _).setCell hz.2 _).cell hw0').trans y3⟩
      | exact ⟨(H2.out.cell hsc).trans c0, (H2.out.cell hsc).trans c1, (H2.out.cell hsc).trans c2, (H2.out.cell hw0').trans y0, (H2.out.cell hw0').trans y1, (H2.out.cell hw0').trans y2, (H2.out.cell hw0').trans y3⟩
      | exact ⟨((H2.out.alloc H2.out.size _).cell hsc).trans c0, ((H2.out.alloc H2.out.size _).cell hsc).trans c1, ((H2.out.alloc H2.out.size _).cell hsc).trans c2, ((H2.out.alloc H2.out.size _).cell hw0').trans y0, ((H2.out.alloc H2.out.size _).cell hw0').trans y1, ((H2.out.alloc H2.out.size _).cell hw0').trans y2, ((H2.out.alloc H2.out.size _).cell hw0').trans y3⟩
      | exact ⟨((((H2.out.setCell hz.2 _).setCell hz.2 _).setCell hz.2 _).cell hsc).trans c0, ((((H2.out.setCell hz.2 _).setCell hz.2 _).setCell hz.2 _).cell hsc).trans c1, ((((H2.out.setCell hz.2 _).setCell hz.2 _).setCell hz.2 _).cell hsc).trans c2, ((((H2.out.setCell hz.2 _).setCell hz.2 _).setCell hz.2 _).cell hw0').trans y0, ((((H2.out.setCell hz.2 _).setCell hz.2 _).setCell hz.2 _).cell hw0').trans y1, ((((H2.out.setCell hz.2 _).setCell hz.2 _).setCell hz.2 _).cell hw0').trans y2, ((((H2.out.setCell hz.2 _).setCell hz.2 _).setCell hz.2 _).cell hw0').trans y3⟩
      | exact ⟨(((Below.refl w0.heap.size w0).drew.alloc (by simp) _).cell hsc).trans c0, (((Below.refl w0.heap.size w0).drew.alloc (by simp) _).cell hsc).trans c1, (((Below.refl w0.heap.size w0).drew.alloc (by simp) _).cell hsc).trans c2, (((Below.refl w0.heap.size w0).drew.alloc (by simp) _).cell hw0').trans y0, (((Below.refl w0.heap.size w0).drew.alloc (by simp) _).cell hw0').trans y1, (((Below.refl w0.heap.size w0).drew.alloc (by simp) _).cell hw0').trans y2, (((Below.refl w0.heap.size w0).drew.alloc (by simp) _).cell hw0').trans y3⟩)
    (first
      | (go_at_call 73; (with_reducible refine (writeCopy_ok _ P Q V r p q v ?g1 ?g2 ?g3 k1 k2 k3).mono ?_); (case g1 => (refine (Hp.out.bbelow Hw0.out).bsame ?_; repeat' (first | exact Same.refl _ _ | assumption | refine Same.drew ?_ | refine Same.drewN ?_ _ | refine Same.alloc ?_ _ | refine Same.setCell ?_ (fun hq => by simp only [From] at hq; first | omega | (simp at hq; done) | (simp at hq; omega)) _))); (case g2 => (refine (Hq.out.bbelow Hw0.out).bsame ?_; repeat' (first | exact Same.refl _ _ | assumption | refine Same.drew ?_ | refine Same.drewN ?_ _ | refine Same.alloc ?_ _ | refine Same.setCell ?_ (fun hq => by simp only [From] at hq; first | omega | (simp at hq; done) | (simp at hq; omega)) _))); (case g3 => (refine (Hv.out.bbelow Hw0.out).bsame ?_; repeat' (first | exact Same.refl _ _ | assumption | refine Same.drew ?_ | refine Same.drewN ?_ _ | refine Same.alloc ?_ _ | refine Same.setCell ?_ (fun hq => by simp only [From] at hq; first | omega | (simp at hq; done) | (simp at hq; omega)) _))); rintro e w2 ⟨P2, p2, Q2, q2, V2, v2, rfl, ps, qs, vs, hb2⟩; have H2 := Lib.hid (show Below w0.heap.size w0 w2 from (by first | exact (Below.refl w0.heap.size w0).drew.next hb2 (by simp) | exact ((Below.refl w0.heap.size w0).drew.alloc (by simp) _).next hb2 (by have hq9 := (Below.refl w0.heap.size w0).drew.size; first | (simp; done) | (simp; omega) | (simp at hq9 ⊢; omega)))); (try (have hz' := And.intro ((hb2.block _ (Array.getElem?_eq_some_iff.1 hz.1).1).trans hz.1) hz.2; clear hz; have hz := hz')); (try (have hz := And.intro (show w2.heap[w0.heap.size]? = some (.cells #[.int .i64 0, .slice none 0 0, .slice none 0 0] 79 (0, 0)) from (hb2.block w0.heap.size (by first | (simp; done) | omega | (simp; omega))).trans (box_new w0.drew _ _)) (show w0.heap.size ≤ w0.heap.size from (by first | exact Nat.le_refl _ | exact (Below.refl w0.heap.size w0).size)))); (try (have hz2l := (Array.getElem?_eq_some_iff.1 hz.1).1)); have Ps2 := Lib.hid ps.bz; have Qs2 := Lib.hid qs.bz; have Vs2 := Lib.hid vs.bz; clear ps qs vs)
      | (go_at_call 72; (with_reducible refine (Hf.out _ A1 B1 n1 m1 P2 Q2 V2 p2 q2 v2 ?g1 ?g2 ?g3 ?g4 ?g5 hk1 hk2).mono ?_); (case g1 => (refine (Hs10.out.below wrR_stays H2.out).same wrR_stays ?_; repeat' (first | exact Same.refl _ _ | assumption | refine Same.drew ?_ | refine Same.drewN ?_ _ | refine Same.alloc ?_ _ | refine Same.setCell ?_ (fun hq => by simp only [From] at hq; first | omega | (simp at hq; done) | (simp at hq; omega)) _))); (case g2 => (refine (Hs20.out.below wrR_stays H2.out).same wrR_stays ?_; repeat' (first | exact Same.refl _ _ | assumption | refine Same.drew ?_ | refine Same.drewN ?_ _ | refine Same.alloc ?_ _ | refine Same.setCell ?_ (fun hq => by simp only [From] at hq; first | omega | (simp at hq; done) | (simp at hq; omega)) _))); (case g3 => (refine Ps2.out.bsame ?_; repeat' (first | exact Same.refl _ _ | assumption | refine Same.drew ?_ | refine Same.drewN ?_ _ | refine Same.alloc ?_ _ | refine Same.setCell ?_ (fun hq => by simp only [From] at hq; first | omega | (simp at hq; done) | (simp at hq; omega)) _))); (case g4 => (refine Qs2.out.bsame ?_; repeat' (first | exact Same.refl _ _ | assumption | refine Same.drew ?_ | refine Same.drewN ?_ _ | refine Same.alloc ?_ _ | refine Same.setCell ?_ (fun hq => by simp only [From] at hq; first | omega | (simp at hq; done) | (simp at hq; omega)) _))); (case g5 => (refine Vs2.out.bsame ?_; repeat' (first | exact Same.refl _ _ | assumption | refine Same.drew ?_ | refine Same.drewN ?_ _ | refine Same.alloc ?_ _ | refine Same.setCell ?_ (fun hq => by simp only [From] at hq; first | omega | (simp at hq; done) | (simp at hq; omega)) _))); rintro e w3 ⟨A3, n3, B3, m3, rfl, _, _, rs, ss, hb3⟩; have H3 := Lib.hid (show Below w0.heap.size w0 w3 from (by first | exact H2.out.next hb3 H2.out.size | exact (H2.out.alloc H2.out.size _).next hb3 (by have hq9 := H2.out.size; first | (simp; done) | (simp; omega) | (simp at hq9 ⊢; omega)))); (try (have hz' := And.intro ((hb3.block _ (Array.getElem?_eq_some_iff.1 hz.1).1).trans hz.1) hz.2; clear hz; have hz := hz')); (try (have hz := And.intro (show w3.heap[w2.heap.size]? = some (.cells #[.int .i64 0, .slice none 0 0, .slice none 0 0] 79 (0, 0)) from (hb3.block w2.heap.size (by first | (simp; done) | omega | (simp; omega))).trans (box_new w2 _ _)) (show w0.heap.size ≤ w2.heap.size from (by first | exact Nat.le_refl _ | exact H2.out.size)))); have Rs := Lib.hid rs; have Ss := Lib.hid ss; clear rs ss; (try (obtain ⟨e0, e1, e2, e3, e4, e5⟩ := box3 hz.1; have hzl := (Array.getElem?_eq_some_iff.1 hz.1).1))))
  all_goals
    first
      | (have hzc := Lib.hid (show w3.heap[w0.heap.size]? = some (.cells #[.int .i64 0, .slice none 0 0, .slice none 0 0] 79 (0, 0)) from hz.1); have HF1 := Lib.hid (show TxF w0 (((w3.setCell ⟨w0.heap.size, 0, none⟩ (.int .i64 x.start)).setCell ⟨w0.heap.size, 1, none⟩ (.slice A3 x.reads.length n3)).setCell ⟨w0.heap.size, 2, none⟩ (.slice B3 x.writes.length m3)) (w0.heap.size) A3 n3 B3 m3 x from ⟨((H3.out.setCell hz.2 _).setCell hz.2 _).setCell hz.2 _, (by rw [heap_setCell_same _ _ _ _ _ _ (heap_setCell_same _ _ _ _ _ _ (heap_setCell_same _ _ _ _ _ _ hz.1))]; rfl), (by refine ((Rs.out.less wrR_stays (S' := fun b => b ≠ w0.heap.size) fun b hb h => ?_).same wrR_stays ((((Same.refl _ _).setCell (fun h => h rfl) _).setCell (fun h => h rfl) _).setCell (fun h => h rfl) _)).z wrR_stays; (have h' := h; simp only [From] at h'; (try simp at h'); have := H2.out.size; omega)), (by refine ((Ss.out.less wrR_stays (S' := fun b => b ≠ w0.heap.size) fun b hb h => ?_).same wrR_stays ((((Same.refl _ _).setCell (fun h => h rfl) _).setCell (fun h => h rfl) _).setCell (fun h => h rfl) _)).z wrR_stays; (have h' := h; simp only [From] at h'; (try simp at h'); have := H2.out.size; omega))⟩); have HF0 := HF1.out; refine abs2 (P := fun X => Exit.then _ _ _ _ X) _ ?_; intro WF hWF; have HF := Lib.hid (show TxF w0 WF (w0.heap.size) A3 n3 B3 m3 x by rw [← hWF]; exact HF0); clear HF0 hWF)
      | (have hzc := Lib.hid (show w3.heap[w2.heap.size]? = some (.cells #[.int .i64 0, .slice none 0 0, .slice none 0 0] 79 (0, 0)) from hz.1); have HF1 := Lib.hid (show TxF w0 (((w3.setCell ⟨w2.heap.size, 0, none⟩ (.int .i64 x.start)).setCell ⟨w2.heap.size, 1, none⟩ (.slice A3 x.reads.length n3)).setCell ⟨w2.heap.size, 2, none⟩ (.slice B3 x.writes.length m3)) (w2.heap.size) A3 n3 B3 m3 x from ⟨((H3.out.setCell hz.2 _).setCell hz.2 _).setCell hz.2 _, (by rw [heap_setCell_same _ _ _ _ _ _ (heap_setCell_same _ _ _ _ _ _ (heap_setCell_same _ _ _ _ _ _ hz.1))]; rfl), (by refine ((Rs.out.less wrR_stays (S' := fun b => b ≠ w2.heap.size) fun b hb h => ?_).same wrR_stays ((((Same.refl _ _).setCell (fun h => h rfl) _).setCell (fun h => h rfl) _).setCell (fun h => h rfl) _)).z wrR_stays; (have h' := h; simp only [From] at h'; (try simp at h'); have := H2.out.size; omega)), (by refine ((Ss.out.less wrR_stays (S' := fun b => b ≠ w2.heap.size) fun b hb h => ?_).same wrR_stays ((((Same.refl _ _).setCell (fun h => h rfl) _).setCell (fun h => h rfl) _).setCell (fun h => h rfl) _)).z wrR_stays; (have h' := h; simp only [From] at h'; (try simp at h'); have := H2.out.size; omega))⟩); have HF0 := HF1.out; refine abs2 (P := fun X => Exit.then _ _ _ _ X) _ ?_; intro WF hWF; have HF := Lib.hid (show TxF w0 WF (w2.heap.size) A3 n3 B3 m3 x by rw [← hWF]; exact HF0); clear HF0 hWF)
      | (have HF0 : TxF w0 (w3.alloc (.cells #[.int .i64 x.start, .slice A3 x.reads.length n3, .slice B3 x.writes.length m3] 79)) w3.heap.size A3 n3 B3 m3 x := ⟨H3.out.alloc H3.out.size _, box_new w3 _ _, (Rs.out.z wrR_stays).same wrR_stays ((Same.refl _ _).alloc _), (Ss.out.z wrR_stays).same wrR_stays ((Same.refl _ _).alloc _)⟩; refine abs2 (P := fun X => Exit.then _ _ _ _ X) _ ?_; intro WF hWF; have HF := Lib.hid (show TxF w0 WF w3.heap.size A3 n3 B3 m3 x by rw [← hWF]; exact HF0); clear HF0 hWF)
  all_goals
    have Hb5 := Lib.hid (Hw0.out.next HF.out.b (by omega))
    have hzF := HF.out.b.size
    clear c0 c1 c2 y0 y1 y2 y3
    obtain ⟨x0, x1, x2, _⟩ := box3 ((HF.out.b.block _ hw0).trans Hxc.out)
    obtain ⟨y0, y1, y2, y3, _⟩ := box4 ((HF.out.b.block _ hw0').trans Hyc.out)
    have hlF := (Array.getElem?_eq_some_iff.1 HF.out.g).1
    go_wp2_with (first
      | (go_at_call 74; refine (Hg.out _ (Ha.out.below wrR_stays Hb5.out) (Hb.out.below wrR_stays Hb5.out) (Hp.out.bbelow Hb5.out) (Hq.out.bbelow Hb5.out) (Hv.out.bbelow Hb5.out)).mono ?_; rintro e w4 ⟨A4, n4, B4, m4, rfl, _, _, rs4, ss4, hb4⟩; have Rs4 := Lib.hid (rs4.z wrR_stays); have Ss4 := Lib.hid (ss4.z wrR_stays); have hs4 := hb4.size; have Hf4 := Lib.hid ((hb4.block _ hlF).trans HF.out.g); have Hx4 := Lib.hid ((hb4.block w.heap.size (by omega)).trans ((HF.out.b.block _ hw0).trans Hxc.out)); have Hz4 := Lib.hid ((hb4.block w1.heap.size (by omega)).trans ((HF.out.b.block _ hsc).trans Hzc.out)); have Hb4 := Lib.hid hb4; have hl4 := Nat.lt_of_lt_of_le hlF hs4; have hl4a : w.heap.size < w4.heap.size := (by omega); have hl4b : w1.heap.size < w4.heap.size := (by omega); obtain ⟨f0, f1, f2, _⟩ := box3 Hf4.out; have H45 := Lib.hid (show Below w4.heap.size w4 (w4.alloc (.cells #[.int .i64 x.start, .slice A4 x.reads.length n4, .slice B4 x.writes.length m4] 79)) from (Below.refl _ _).alloc (Nat.le_refl _) _); clear rs4 ss4 hb4)
      | (go_at_call 66; (with_reducible refine (sameTxn_ok _ A3 B3 A4 B4 x n3 m3 n4 m4 ?g1 ?g2 ?g3 ?g4 hxr hxw).mono ?_); (case g1 => exact (HF.out.r.below wrR_stays Hb4.out).below wrR_stays H45.out); (case g2 => exact (HF.out.s.below wrR_stays Hb4.out).below wrR_stays H45.out); (case g3 => exact Rs4.out.below wrR_stays H45.out); (case g4 => exact Ss4.out.below wrR_stays H45.out); rintro e w5 ⟨rfl, hb5⟩; have Hb55 := Lib.hid (H45.out.next hb5 (by simp)); obtain ⟨d0, d1, d2, _⟩ := box3 ((Hb55.out.block _ hl4a).trans Hx4.out); obtain ⟨e0, e1, e2, _⟩ := box3 ((Hb55.out.block _ hl4b).trans Hz4.out); have Hw5 := Lib.hid ((Hb5.out.next Hb4.out (by have := Hb5.out.size; omega)).next Hb55.out (by omega)); have Hc5 := Lib.hid ((HF.out.b.next Hb4.out hzF).next Hb55.out (by omega)); clear hb5)
      | (go_at_call 66; (with_reducible refine (sameTxn_ok _ A1 B1 A B t n1 m1 n m ?g1 ?g2 ?g3 ?g4 hrl hwl).mono ?_); (case g1 => exact Hs10.out.below wrR_stays Hc5.out); (case g2 => exact Hs20.out.below wrR_stays Hc5.out); (case g3 => exact Ha.out.below wrR_stays Hw5.out); (case g4 => exact Hb.out.below wrR_stays Hw5.out); rintro e w6 ⟨rfl, hb6⟩; have Hw6 := Lib.hid (Hw5.out.next hb6 (by have := Hw5.out.size; omega))))
    go_ret
    exact ⟨by simp, Hw6.out⟩
end Go.Proofs.Ythhcdibimnifaaa
