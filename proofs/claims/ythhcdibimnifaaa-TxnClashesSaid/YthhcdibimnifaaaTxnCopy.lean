/- Walk: TxnCopy. -/
import Derived.Test.YthhcdibimnifaaaTxn
import Derived.Test.YthhcdibimnifaaaRdCopy
namespace Go.Proofs.Ythhcdibimnifaaa
open Go.RowKit
set_option linter.unusedVariables false
set_option linter.unusedSimpArgs false

theorem info_tx : (Try.prog.info? 79).map (fun i => (i.zero, i.size, i.bytes)) = some (some (.agg #[.int .i64 0, .slice none 0 0, .slice none 0 0]), 3, 56) := by kernel_rfl
theorem Same.of_lt {S : Nat → Prop} {n : Nat} {w w' : World} (h : Below n w w') (hS : ∀ k, S k → k < n) : Same S w w' := ⟨h.size, fun k hk _ => h.block k (hS k hk)⟩
theorem alloc3 (w : World) (a b c : Obj) : (((w.alloc a).alloc b).alloc c).heap[w.heap.size]? = some a ∧ (((w.alloc a).alloc b).alloc c).heap[w.heap.size + 1]? = some b ∧ (((w.alloc a).alloc b).alloc c).heap[w.heap.size + 2]? = some c ∧ (((w.alloc a).alloc b).alloc c).heap.size = w.heap.size + 3 ∧ Below w.heap.size w (((w.alloc a).alloc b).alloc c) := by
  refine ⟨?_, ?_, ?_, by simp, (((Below.refl _ _).alloc (Nat.le_refl _) _).alloc (by simp) _).alloc (by simp; omega) _⟩
  · rw [heap_alloc_old _ _ (by simp; omega), heap_alloc_old _ _ (by simp), heap_alloc_new]
  · rw [heap_alloc_old _ _ (by simp)]
    have := heap_alloc_new (w.alloc a) b
    simpa using this
  · have := heap_alloc_new ((w.alloc a).alloc b) c
    simpa using this
/-- The call returns a transaction of its own memory. -/
def RetTx (w : World) (t : Tx) (e : Ending) (w' : World) : Prop :=
  ∃ A n B m, e = .returned (.agg #[.int .i64 t.start, .slice A t.reads.length n, .slice B t.writes.length m]) ∧ t.reads.length ≤ n ∧ t.writes.length ≤ m ∧ Ws (From w.heap.size) w' A t.reads ∧ Ws (From w.heap.size) w' B t.writes ∧ Below w.heap.size w w'
set_option maxRecDepth 100000 in
set_option maxHeartbeats 4000000 in
theorem txnCopy_ok (w : World) (A B : Option Addr) (t : Tx) (n m : Nat) (ha : Ws All w A t.reads) (hb : Ws All w B t.writes) (hn : t.reads.length * 80 ≤ 140737488355328) (hm : t.writes.length * 80 ≤ 140737488355328) :
    Calls Try.prog 63 #[.agg #[.int .i64 t.start, .slice A t.reads.length n, .slice B t.writes.length m]] w (RetTx w t) := by
  obtain ⟨i0, hi0, hz0, hz1, hz2⟩ := info_parts info_rd
  obtain ⟨j0, hj0, hy0, hy1, hy2⟩ := info_parts info_wr
  have Ha := Lib.hid ha
  have Hb := Lib.hid hb
  clear ha hb
  go_enter Try.func63, Try.ntmps63
  go_wp2
  obtain ⟨hx, hy, hz, hsz, hbl⟩ := alloc3 w (.cells #[.int .i64 t.start, .slice A t.reads.length n, .slice B t.writes.length m] 79) (.cells #[.int .i64 0, .slice none 0 0, .slice none 0 0] 79) (.cells #[.int .i64 t.start, .slice none 0 0, .slice none 0 0] 79)
  generalize (((w.alloc (.cells #[.int .i64 t.start, .slice A t.reads.length n, .slice B t.writes.length m] 79)).alloc (.cells #[.int .i64 0, .slice none 0 0, .slice none 0 0] 79)).alloc (.cells #[.int .i64 t.start, .slice none 0 0, .slice none 0 0] 79)) = w0 at *
  have Hx := Lib.hid hx
  have Hy := Lib.hid hy
  have Hz := Lib.hid hz
  have Hbl := Lib.hid hbl
  clear hx hy hz hbl
  go_loopw [4] (fun i wr => ∃ (k : Nat) (v : Value), k ≤ t.reads.length ∧ i = .int .i64 k ∧ Own 4 WrR (From w0.heap.size) wr w0.heap.size 88 v (t.reads.take k) ∧ wr.heap[w.heap.size + 2]? = some (.cells #[.int .i64 t.start, v, .slice none 0 0] 79 (0, 0)) ∧ Below (w.heap.size + 2) w0 wr) (fun i _ => t.reads.length - (intOf i).toNat)
  case atStart => exact ⟨0, _, by omega, rfl, Own.nil _ _ _, Hz.out, Below.refl _ _⟩
  case round =>
    obtain ⟨k, v, hk, rfl, hown, hcx, hbel⟩ := hrel
    have Hbel := Lib.hid hbel
    have Hown := Lib.hid hown
    have Hcx := Lib.hid hcx
    have hbz := hbel.size
    skip
    have Hbw := Lib.hid (Hbl.out.trans (hbel.mono (by omega)))
    obtain ⟨g0, g1, g2, _⟩ := box3 ((hbel.block _ (by omega)).trans Hx.out)
    clear hown hbel hcx
    by_cases hlt : k < t.reads.length
    · obtain ⟨g, off, A1, a1, B1, b1, C1, c1, rfl, _, hal, hc1, hc2, hc3, hc4, hs1, hs2, hs3, hb1, hb2, hb3⟩ := wrs_at (Ha.out.below wrR_stays Hbw.out) hlt
      have Hsn := Lib.hid (take_snoc t.reads k hlt)
      have hl8 : (t.reads.take k ++ [t.reads[k]]).length = k + 1 := by rw [List.length_append, List.length_take, List.length_singleton]; omega
      generalize t.reads[k] = x at *
      have Hs1 := Lib.hid hs1.bz
      have Hs2 := Lib.hid hs2.bz
      have Hs3 := Lib.hid hs3.bz
      clear hs1 hs2 hs3
      go_wp2_with (first
        | (go_at_call 70; refine (readCopy_ok _ A1 B1 C1 x a1 b1 c1 Hs1.out Hs2.out Hs3.out hb1 hb2 hb3).mono ?_; rintro e w1 ⟨A2, a2, B2, b2, C2, c2, rfl, gs1, gs2, gs3, hbw1⟩; have hzw1 := hbw1.size; have hzq : w.heap.size + 2 < w1.heap.size := (by omega); have Gs1 := Lib.hid gs1; have Gs2 := Lib.hid gs2; have Gs3 := Lib.hid gs3; have hbx1 := (hbw1.block _ (by omega)).trans Hcx.out; obtain ⟨ge0, ge1, ge2, _⟩ := box3 hbx1; have Hbx1 := Lib.hid hbx1; clear gs1 gs2 gs3 hbx1)
        | (at_builtin; refine wpl_snoc wrR_stays (S := From w0.heap.size) _ rfl _ _ _ rfl w0.heap.size 88 i0 _ 4 80 Try.underlying77 hi0 hz0 hz1 hz2 rfl (by decide) v (t.reads.take k) rfl ?hown _ _ [.slice A2 x.name.length a2, .slice B2 x.key.length b2, .bool x.flag, .slice C2 x.value.length c2] rfl rfl (new_src _ _ [.slice A2 x.name.length a2, .slice B2 x.key.length b2, .bool x.flag, .slice C2 x.value.length c2] _ (by simp)) (by simp [Value.oneCell']) ?hm ?hby ?hba x ?hd ?_; (case hown => (refine Own.below wrR_stays Hown.out ?_; repeat' (first | exact Below.refl _ _ | assumption | refine Below.drew ?_ | refine below_drewN ?_ _ | refine Below.setCell ?_ (by first | (simp; done) | omega | (simp; omega)) _ | refine Below.alloc ?_ (by first | exact Nat.le_refl _ | omega | (simp; done) | (simp; omega)) _))); (case hm => (simp only [List.length_take, maxLen]; omega)); (case hby => (simp only [List.length_take]; omega)); (case hba => (simp; omega)); (case hd => (refine wr_fresh (n := wr.heap.size) Gs1.out Gs2.out Gs3.out hb1 hb2 hb3 ?_ (by first | exact Nat.le_refl _ | omega | (simp; done) | (simp; omega)) (Hown.out.apart _ (Nat.le_refl _)); repeat' (first | exact Same.refl _ _ | assumption | refine Same.drew ?_ | refine Same.drewN ?_ _ | refine Same.alloc ?_ _ | refine Same.setCell ?_ (fun hq => by simp only [From] at hq; first | omega | (simp at hq; done) | (simp at hq; omega)) _))); intro v1 w2 hown2 hbw2; obtain ⟨A8, c8, rfl, _, _⟩ := hown2.readc wrR_stays; have Hown2 := Lib.hid hown2; clear hown2; have hbx2 := (hbw2.block (w.heap.size + 2) (by omega)).trans ((heap_alloc_old _ _ (by simp; omega)).trans ((heap_alloc_old _ _ (by omega)).trans Hbx1.out)); obtain ⟨gf0, gf1, gf2, gf3, gf4, gf5⟩ := box3 hbx2; have hzw2 := hbw2.size; simp at hzw2; have hz22 : w.heap.size + 2 < w2.heap.size := (by omega)))
      go_roundw
      case rel => exact ⟨k + 1, _, by omega, by go_num, by rw [Hsn.out]; exact Hown2.out.same_from wrR_stays ((Same.refl _ _).setCell (fun h => by simp only [From] at h; omega) _), by rw [heap_setCell_same _ _ _ _ _ _ hbx2, hl8]; rfl, ((((Hbel.out.next hbw1 (by omega)).mono (Nat.le_refl _)).alloc (by omega) _).alloc (by simp; omega) _ |>.trans (hbw2.mono (by omega))).setCell (Nat.le_refl _) _⟩
      case measure => simp [intOf]; omega
    · obtain rfl : k = t.reads.length := by omega
      have hown3 := Hown.out
      rw [List.take_length] at hown3
      obtain ⟨A8, c8, rfl, hc8, hs8⟩ := hown3.readc wrR_stays
      have Hs8 := Lib.hid hs8
      clear hs8 hown3 Hown
      have Hsp := Lib.hid (show Ws (fun b => w0.heap.size ≤ b ∧ b < wr.heap.size) wr A8 t.reads from Hs8.out.less wrR_stays fun b hb h => ⟨h, hb⟩)
      obtain ⟨wn, rfl⟩ : ∃ wn : World, wn = wr := ⟨_, rfl⟩
      obtain ⟨A7, rfl⟩ : ∃ A7, A7 = A8 := ⟨_, rfl⟩
      obtain ⟨c7, rfl⟩ : ∃ c7, c7 = c8 := ⟨_, rfl⟩
      have hc7 := hc8
      have HxN := Lib.hid ((Hbel.out.block _ (by omega)).trans Hx.out)
      have HyN := Lib.hid ((Hbel.out.block _ (by omega)).trans Hy.out)
      have HzN := Lib.hid Hcx.out
      have HbN := Lib.hid Hbw.out
      have hbzN := hbz
      have Hs7 := Lib.hid Hsp.out
      clear hc8 Hs8 Hsp Hcx Hbw Hbel hlt hk hbz Hx Hy Hz
      go_wp2
      clear g0 g1 g2
      go_loopw [6] (fun i wr => ∃ (k : Nat) (v : Value), k ≤ t.writes.length ∧ i = .int .i64 k ∧ Own 4 WrR (From wn.heap.size) wr wn.heap.size 94 v (t.writes.take k) ∧ wr.heap[w.heap.size + 2]? = some (.cells #[.int .i64 t.start, .slice A7 t.reads.length c7, v] 79 (0, 0)) ∧ Below (w.heap.size + 2) wn wr ∧ Same (fun b => w0.heap.size ≤ b ∧ b < wn.heap.size) wn wr) (fun i _ => t.writes.length - (intOf i).toNat)
      case atStart => exact ⟨0, _, by omega, rfl, Own.nil _ _ _, HzN.out, Below.refl _ _, Same.refl _ _⟩
      case round =>
        obtain ⟨k, v, hk, rfl, hown, hcx, hbel, hsm⟩ := hrel
        have Hbel := Lib.hid hbel
        have Hown := Lib.hid hown
        have Hcx := Lib.hid hcx
        have hbz := hbel.size
        have Hsm := Lib.hid hsm; clear hsm
        have Hbw := Lib.hid (HbN.out.trans (hbel.mono (by omega)))
        obtain ⟨g0, g1, g2, _⟩ := box3 ((hbel.block _ (by omega)).trans HxN.out)
        clear hown hbel hcx
        by_cases hlt : k < t.writes.length
        · obtain ⟨g, off, A1, a1, B1, b1, C1, c1, rfl, _, hal, hc1, hc2, hc3, hc4, hs1, hs2, hs3, hb1, hb2, hb3⟩ := wrs_at (Hb.out.below wrR_stays Hbw.out) hlt
          have Hsn := Lib.hid (take_snoc t.writes k hlt)
          have hl8 : (t.writes.take k ++ [t.writes[k]]).length = k + 1 := by rw [List.length_append, List.length_take, List.length_singleton]; omega
          generalize t.writes[k] = x at *
          have Hs1 := Lib.hid hs1.bz
          have Hs2 := Lib.hid hs2.bz
          have Hs3 := Lib.hid hs3.bz
          clear hs1 hs2 hs3
          go_wp2_with (first
            | (go_at_call 73; refine (writeCopy_ok _ A1 B1 C1 x a1 b1 c1 Hs1.out Hs2.out Hs3.out hb1 hb2 hb3).mono ?_; rintro e w1 ⟨A2, a2, B2, b2, C2, c2, rfl, gs1, gs2, gs3, hbw1⟩; have hzw1 := hbw1.size; have hzq : w.heap.size + 2 < w1.heap.size := (by omega); have Gs1 := Lib.hid gs1; have Gs2 := Lib.hid gs2; have Gs3 := Lib.hid gs3; have hbx1 := (hbw1.block _ (by omega)).trans Hcx.out; obtain ⟨ge0, ge1, ge2, _⟩ := box3 hbx1; have Hbx1 := Lib.hid hbx1; clear gs1 gs2 gs3 hbx1)
            | (at_builtin; refine wpl_snoc wrR_stays (S := From wn.heap.size) _ rfl _ _ _ rfl wn.heap.size 94 j0 _ 4 80 Try.underlying51 hj0 hy0 hy1 hy2 rfl (by decide) v (t.writes.take k) rfl ?hown _ _ [.slice A2 x.name.length a2, .slice B2 x.key.length b2, .bool x.flag, .slice C2 x.value.length c2] rfl rfl (new_src _ _ [.slice A2 x.name.length a2, .slice B2 x.key.length b2, .bool x.flag, .slice C2 x.value.length c2] _ (by simp)) (by simp [Value.oneCell']) ?hm ?hby ?hba x ?hd ?_; (case hown => (refine Own.below wrR_stays Hown.out ?_; repeat' (first | exact Below.refl _ _ | assumption | refine Below.drew ?_ | refine below_drewN ?_ _ | refine Below.setCell ?_ (by first | (simp; done) | omega | (simp; omega)) _ | refine Below.alloc ?_ (by first | exact Nat.le_refl _ | omega | (simp; done) | (simp; omega)) _))); (case hm => (simp only [List.length_take, maxLen]; omega)); (case hby => (simp only [List.length_take]; omega)); (case hba => (simp; omega)); (case hd => (refine wr_fresh (n := wr.heap.size) Gs1.out Gs2.out Gs3.out hb1 hb2 hb3 ?_ (by first | exact Nat.le_refl _ | omega | (simp; done) | (simp; omega)) (Hown.out.apart _ (Nat.le_refl _)); repeat' (first | exact Same.refl _ _ | assumption | refine Same.drew ?_ | refine Same.drewN ?_ _ | refine Same.alloc ?_ _ | refine Same.setCell ?_ (fun hq => by simp only [From] at hq; first | omega | (simp at hq; done) | (simp at hq; omega)) _))); intro v1 w2 hown2 hbw2; obtain ⟨A8, c8, rfl, _, _⟩ := hown2.readc wrR_stays; have Hown2 := Lib.hid hown2; clear hown2; have hbx2 := (hbw2.block (w.heap.size + 2) (by omega)).trans ((heap_alloc_old _ _ (by simp; omega)).trans ((heap_alloc_old _ _ (by omega)).trans Hbx1.out)); obtain ⟨gf0, gf1, gf2, gf3, gf4, gf5⟩ := box3 hbx2; have hzw2 := hbw2.size; simp at hzw2; have hz22 : w.heap.size + 2 < w2.heap.size := (by omega)))
          go_roundw
          case rel => exact ⟨k + 1, _, by omega, by go_num, by rw [Hsn.out]; exact Hown2.out.same_from wrR_stays ((Same.refl _ _).setCell (fun h => by simp only [From] at h; omega) _), by rw [heap_setCell_same _ _ _ _ _ _ hbx2, hl8]; rfl, ((((Hbel.out.next hbw1 (by omega)).mono (Nat.le_refl _)).alloc (by omega) _).alloc (by simp; omega) _ |>.trans (hbw2.mono (by omega))).setCell (Nat.le_refl _) _, ((((Hsm.out.trans (Same.of_below hbw1)).alloc _).alloc _).trans (Same.of_lt hbw2 (fun k h => h.2))).setCell (fun h => by have := h.1; simp only [] at this; omega) _⟩
          case measure => simp [intOf]; omega
        · obtain rfl : k = t.writes.length := by omega
          have hown3 := Hown.out
          rw [List.take_length] at hown3
          obtain ⟨A8, c8, rfl, hc8, hs8⟩ := hown3.readc wrR_stays
          have Hs8 := Lib.hid hs8
          clear hs8 hown3 Hown
          obtain ⟨ge0, ge1, ge2, _⟩ := box3 Hcx.out
          obtain ⟨gh0, gh1, gh2, gh3, gh4, gh5⟩ := box3 ((Hbel.out.block _ (by omega)).trans HyN.out)
          have hzr : w.heap.size + 1 < wr.heap.size := by omega
          go_wp2
          refine bodyPost_ret (v := .agg #[.int .i64 t.start, .slice A7 t.reads.length c7, .slice A8 t.writes.length c8]) (by simp [results, Try.results63, go_sem, gh0, gh1, gh2]) rfl ⟨A7, c7, A8, c8, rfl, hc7, hc8, ?_, ?_, ?_⟩
          · refine SL.same wrR_stays (((Hs7.out.same wrR_stays Hsm.out)).less wrR_stays fun b _ h => h.1) ?_ |>.lo wrR_stays (by omega)
            exact ((((Same.refl _ _).setCell (fun h => by simp only [From] at h; omega) _).setCell (fun h => by simp only [From] at h; omega) _).setCell (fun h => by simp only [From] at h; omega) _)
          · refine SL.same wrR_stays Hs8.out ?_ |>.lo wrR_stays (by omega)
            exact ((((Same.refl _ _).setCell (fun h => by simp only [From] at h; omega) _).setCell (fun h => by simp only [From] at h; omega) _).setCell (fun h => by simp only [From] at h; omega) _)
          · exact (((Hbw.out.setCell (by simp only []; omega) _).setCell (by simp only []; omega) _).setCell (by simp only []; omega) _)
end Go.Proofs.Ythhcdibimnifaaa
