/- Walk: TxnCopy. -/
import Derived.Test.YthhcdibimnifaaaTxn
import Derived.Test.YthhcdibimnifaaaRdCopy
namespace Go.Proofs.Ythhcdibimnifaaa
open Go.RowKit
set_option linter.unusedVariables false
set_option linter.unusedSimpArgs false

theorem info_tx : (Try.prog.info? 79).map (fun i => (i.zero, i.size, i.bytes)) = some (some (.agg #[.int .i64 0, .slice none 0 0, .slice none 0 0]), 3, 56) := by kernel_rfl
theorem Same.of_lt {S : Nat → Prop} {n : Nat} {w w' : World} (h : Below n w w') (hS : ∀ k, S k → k < n) : Same S w w' := ⟨h.size, fun k hk _ => h.block k (hS k hk)⟩
theorem alloc3 (w : World) (a b c : Obj) : (((w.alloc a).alloc b).alloc c).heap[w.heap.size]? = some a ∧ (((w.alloc a).alloc b).alloc c).heap[w.heap.size + 1]? = some b ∧ (((w.alloc a).alloc b).alloc c).heap[w.heap.size + 2]? = some c ∧ (((w.alloc a).alloc b).alloc c).heap.size = w.heap.size + 3 ∧ Below w.heap.size w (((w.alloc a).alloc b).alloc c) := by
  refine ⟨?_, ?_, ?_, by simp, (((Below.refl _ _).alloc (Nat.le_refl _) _).alloc (by simp) _).alloc (by simp; omega) _⟩
  · rw [heap_alloc_old _ _ (by simp; omega), heap_alloc_old _ _ (by simp), heap_alloc_new]
  · rw [heap_alloc_old _ _ (by simp)]
    have := heap_alloc_new (w.alloc a) b
    simpa using this
  · have := heap_alloc_new ((w.alloc a).alloc b) c
    simpa using this
/-- A row of the call's own is so still, where nothing of it has turned; said of more blocks. -/
theorem Own.keep {α : Type} {size : Nat} {R : (Nat → Prop) → World → List Value → α → Prop} {S T S2 : Nat → Prop} {w w' : World} {base base' : Nat} {e : TypeId} {v : Value} {l : List α} (hR : Stays R) (h : Own size R S w base e v l) (hb : Same T w w') (hST : ∀ b, b < w.heap.size → S b → T b) (hv : ∀ b, v.ownBlock = some b → T b) (hS2 : ∀ b, b < w.heap.size → S b → S2 b) (hbase : base' ≤ base) : Own size R S2 w' base' e v l := by
  obtain ⟨xs, h1, h2⟩ := h
  refine ⟨xs, ⟨h1.1, ?_⟩, fun i hi => ?_⟩
  · rcases h1.2 with hn | ⟨g, cap, cur, hv', hb', hh, rest⟩
    · exact .inl hn
    · refine .inr ⟨g, cap, cur, hv', Nat.le_trans hbase hb', ?_, rest⟩
      rw [hb.block g (hv g (by rw [hv']; rfl)) (Array.getElem?_eq_some_iff.1 hh).1]
      exact hh
  · have h3 := hR.less _ (fun b => (S2 b ∧ v.ownBlock ≠ some b) ∧ T b) w _ _ (fun b hb2 hs => ⟨⟨hS2 b hb2 hs.1, hs.2⟩, hST b hb2 hs.1⟩) (h2 i hi)
    have h4 := hR.same _ w w' _ _ ⟨hb.size, fun k hk hk2 => hb.block k hk.2 hk2⟩ h3
    exact hR.less _ _ _ _ _ (fun b _ hs => hs.1) h4
/-- The block of a slice. -/
def blk (A : Option Addr) : Option Nat := A.map (·.block)
theorem own_blk (A : Option Addr) (n c : Nat) : (Value.slice A n c).ownBlock = blk A := by
  cases A <;> rfl
/-- A transaction of the call's own memory: two rows of its own, apart. -/
def TxOwn (H : Nat) (w' : World) (t : Tx) (A : Option Addr) (n : Nat) (B : Option Addr) (m : Nat) : Prop :=
  t.reads.length ≤ n ∧ t.writes.length ≤ m ∧ Own 4 WrR (fun b => From H b ∧ blk B ≠ some b) w' H 88 (.slice A t.reads.length n) t.reads ∧ Own 4 WrR (fun b => From H b ∧ blk A ≠ some b) w' H 94 (.slice B t.writes.length m) t.writes ∧ (∀ b, blk A = some b → blk B ≠ some b)
theorem Own.sl {α : Type} {size : Nat} {R : (Nat → Prop) → World → List Value → α → Prop} {S : Nat → Prop} {w : World} {base : Nat} {e : TypeId} {A : Option Addr} {l : List α} {c : Nat} (hR : Stays R) (h : Own size R S w base e (.slice A l.length c) l) (hS : ∀ b, base ≤ b → blk A = some b → S b) : SL size R S w A l := by
  obtain ⟨xs, h1, h2⟩ := h
  intro hl
  have h1' := h1
  rcases h1.2 with ⟨hn, h0⟩ | ⟨g, cap, cur, hv, hge, hh, hcap, _⟩
  · omega
  · injection hv with hA _ _
    subst hA
    refine ⟨g, 0, rfl, hS g hge rfl, (Array.getElem?_eq_some_iff.1 hh).1, fun i hi => ⟨_, ?_, fun j hj => ?_, hR.less _ _ _ _ _ (fun b _ hs => hs.1) (h2 i hi)⟩⟩
    · rw [List.length_take, List.length_drop, h1'.1]
      have : (i + 1) * size ≤ l.length * size := Nat.mul_le_mul_right _ hi
      rw [Nat.add_mul, Nat.one_mul] at this
      omega
    · have hlt : i * size + j < xs.length := by
        rw [h1'.1]
        have : (i + 1) * size ≤ l.length * size := Nat.mul_le_mul_right _ hi
        rw [Nat.add_mul, Nat.one_mul] at this
        omega
      have hc := h1'.cells (g := g) rfl (i * size + j) xs[i * size + j] (List.getElem?_eq_getElem hlt)
      rw [add_at] at hc
      rw [Nat.add_assoc, hc]
      rw [List.getElem?_take_of_lt hj, List.getElem?_drop, List.getElem?_eq_getElem hlt]
theorem TxOwn.reads {H : Nat} {w' : World} {t : Tx} {A B : Option Addr} {n m : Nat} (h : TxOwn H w' t A n B m) : Ws (fun b => From H b ∧ blk B ≠ some b) w' A t.reads :=
  h.2.2.1.sl wrR_stays fun b hb hA => ⟨hb, h.2.2.2.2 b hA⟩
theorem TxOwn.writes {H : Nat} {w' : World} {t : Tx} {A B : Option Addr} {n m : Nat} (h : TxOwn H w' t A n B m) : Ws (fun b => From H b ∧ blk A ≠ some b) w' B t.writes :=
  h.2.2.2.1.sl wrR_stays fun b hb hB => ⟨hb, fun hA => h.2.2.2.2 b hA hB⟩
/-- The call returns a transaction of its own memory. -/
def RetTxO (w : World) (t : Tx) (e : Ending) (w' : World) : Prop :=
  ∃ A n B m, e = .returned (.agg #[.int .i64 t.start, .slice A t.reads.length n, .slice B t.writes.length m]) ∧ TxOwn w.heap.size w' t A n B m ∧ Below w.heap.size w w'
def RetTx (w : World) (t : Tx) (e : Ending) (w' : World) : Prop :=
  ∃ A n B m, e = .returned (.agg #[.int .i64 t.start, .slice A t.reads.length n, .slice B t.writes.length m]) ∧ t.reads.length ≤ n ∧ t.writes.length ≤ m ∧ Ws (From w.heap.size) w' A t.reads ∧ Ws (From w.heap.size) w' B t.writes ∧ Below w.heap.size w w'
theorem RetTxO.bare {w : World} {t : Tx} {e : Ending} {w' : World} (h : RetTxO w t e w') : RetTx w t e w' := by
  obtain ⟨A, n, B, m, he, ho, hb⟩ := h
  exact ⟨A, n, B, m, he, ho.1, ho.2.1, ho.reads.less wrR_stays fun b _ h => h.1, ho.writes.less wrR_stays fun b _ h => h.1, hb⟩
set_option maxRecDepth 100000 in
set_option maxHeartbeats 4000000 in
theorem txnCopy_own (w : World) (A B : Option Addr) (t : Tx) (n m : Nat) (ha : Ws All w A t.reads) (hb : Ws All w B t.writes) (hn : t.reads.length * 80 ≤ 140737488355328) (hm : t.writes.length * 80 ≤ 140737488355328) :
    Calls Try.prog 63 #[.agg #[.int .i64 t.start, .slice A t.reads.length n, .slice B t.writes.length m]] w (RetTxO w t) := by
  obtain ⟨i0, hi0, hz0, hz1, hz2⟩ := info_parts info_rd
  obtain ⟨j0, hj0, hy0, hy1, hy2⟩ := info_parts info_wr
  have Ha := Lib.hid ha
  have Hb := Lib.hid hb
  clear ha hb
  go_enter Try.func63, Try.ntmps63
  go_wp2
  obtain ⟨hx, hy, hz, hsz, hbl⟩ := alloc3 w (.cells #[.int .i64 t.start, .slice A t.reads.length n, .slice B t.writes.length m] 79) (.cells #[.int .i64 0, .slice none 0 0, .slice none 0 0] 79) (.cells #[.int .i64 t.start, .slice none 0 0, .slice none 0 0] 79)
  generalize (((w.alloc (.cells #[.int .i64 t.start, .slice A t.reads.length n, .slice B t.writes.length m] 79)).alloc (.cells #[.int .i64 0, .slice none 0 0, .slice none 0 0] 79)).alloc (.cells #[.int .i64 t.start, .slice none 0 0, .slice none 0 0] 79)) = w0 at *
  have Hx := Lib.hid hx
  have Hy := Lib.hid hy
  have Hz := Lib.hid hz
  have Hbl := Lib.hid hbl
  clear hx hy hz hbl
  go_loopw [4] (fun i wr => ∃ (k : Nat) (v : Value), k ≤ t.reads.length ∧ i = .int .i64 k ∧ Own 4 WrR (From w0.heap.size) wr w0.heap.size 88 v (t.reads.take k) ∧ wr.heap[w.heap.size + 2]? = some (.cells #[.int .i64 t.start, v, .slice none 0 0] 79 (0, 0)) ∧ Below (w.heap.size + 2) w0 wr) (fun i _ => t.reads.length - (intOf i).toNat)
  case atStart => exact ⟨0, _, by omega, rfl, Own.nil _ _ _, Hz.out, Below.refl _ _⟩
  case round =>
    obtain ⟨k, v, hk, rfl, hown, hcx, hbel⟩ := hrel
    have Hbel := Lib.hid hbel
    have Hown := Lib.hid hown
    have Hcx := Lib.hid hcx
    have hbz := hbel.size
    skip
    have Hbw := Lib.hid (Hbl.out.trans (hbel.mono (by omega)))
    obtain ⟨g0, g1, g2, _⟩ := box3 ((hbel.block _ (by omega)).trans Hx.out)
    clear hown hbel hcx
    by_cases hlt : k < t.reads.length
    · obtain ⟨g, off, A1, a1, B1, b1, C1, c1, rfl, _, hal, hc1, hc2, hc3, hc4, hs1, hs2, hs3, hb1, hb2, hb3⟩ := wrs_at (Ha.out.below wrR_stays Hbw.out) hlt
      have Hsn := Lib.hid (take_snoc t.reads k hlt)
      have hl8 : (t.reads.take k ++ [t.reads[k]]).length = k + 1 := by rw [List.length_append, List.length_take, List.length_singleton]; omega
      generalize t.reads[k] = x at *
      have Hs1 := Lib.hid hs1.bz
      have Hs2 := Lib.hid hs2.bz
      have Hs3 := Lib.hid hs3.bz
      clear hs1 hs2 hs3
      go_wp2_with (first
        | (go_at_call 70; refine (readCopy_ok _ A1 B1 C1 x a1 b1 c1 Hs1.out Hs2.out Hs3.out hb1 hb2 hb3).mono ?_; rintro e w1 ⟨A2, a2, B2, b2, C2, c2, rfl, gs1, gs2, gs3, hbw1⟩; have hzw1 := hbw1.size; have hzq : w.heap.size + 2 < w1.heap.size := (by omega); have Gs1 := Lib.hid gs1; have Gs2 := Lib.hid gs2; have Gs3 := Lib.hid gs3; have hbx1 := (hbw1.block _ (by omega)).trans Hcx.out; obtain ⟨ge0, ge1, ge2, _⟩ := box3 hbx1; have Hbx1 := Lib.hid hbx1; clear gs1 gs2 gs3 hbx1)
        | (at_builtin; refine wpl_snoc wrR_stays (S := From w0.heap.size) _ rfl _ _ _ rfl w0.heap.size 88 i0 _ 4 80 Try.underlying77 hi0 hz0 hz1 hz2 rfl (by decide) v (t.reads.take k) rfl ?hown _ _ [.slice A2 x.name.length a2, .slice B2 x.key.length b2, .bool x.flag, .slice C2 x.value.length c2] rfl rfl (new_src _ _ [.slice A2 x.name.length a2, .slice B2 x.key.length b2, .bool x.flag, .slice C2 x.value.length c2] _ (by simp)) (by simp [Value.oneCell']) ?hm ?hby ?hba x ?hd ?_; (case hown => (refine Own.below wrR_stays Hown.out ?_; repeat' (first | exact Below.refl _ _ | assumption | refine Below.drew ?_ | refine below_drewN ?_ _ | refine Below.setCell ?_ (by first | (simp; done) | omega | (simp; omega)) _ | refine Below.alloc ?_ (by first | exact Nat.le_refl _ | omega | (simp; done) | (simp; omega)) _))); (case hm => (simp only [List.length_take, maxLen]; omega)); (case hby => (simp only [List.length_take]; omega)); (case hba => (simp; omega)); (case hd => (refine wr_fresh (n := wr.heap.size) Gs1.out Gs2.out Gs3.out hb1 hb2 hb3 ?_ (by first | exact Nat.le_refl _ | omega | (simp; done) | (simp; omega)) (Hown.out.apart _ (Nat.le_refl _)); repeat' (first | exact Same.refl _ _ | assumption | refine Same.drew ?_ | refine Same.drewN ?_ _ | refine Same.alloc ?_ _ | refine Same.setCell ?_ (fun hq => by simp only [From] at hq; first | omega | (simp at hq; done) | (simp at hq; omega)) _))); intro v1 w2 hown2 hbw2; obtain ⟨A8, c8, rfl, _, _⟩ := hown2.readc wrR_stays; have Hown2 := Lib.hid hown2; clear hown2; have hbx2 := (hbw2.block (w.heap.size + 2) (by omega)).trans ((heap_alloc_old _ _ (by simp; omega)).trans ((heap_alloc_old _ _ (by omega)).trans Hbx1.out)); obtain ⟨gf0, gf1, gf2, gf3, gf4, gf5⟩ := box3 hbx2; have hzw2 := hbw2.size; simp at hzw2; have hz22 : w.heap.size + 2 < w2.heap.size := (by omega)))
      go_roundw
      case rel => exact ⟨k + 1, _, by omega, by go_num, by rw [Hsn.out]; exact Hown2.out.same_from wrR_stays ((Same.refl _ _).setCell (fun h => by simp only [From] at h; omega) _), by rw [heap_setCell_same _ _ _ _ _ _ hbx2, hl8]; rfl, ((((Hbel.out.next hbw1 (by omega)).mono (Nat.le_refl _)).alloc (by omega) _).alloc (by simp; omega) _ |>.trans (hbw2.mono (by omega))).setCell (Nat.le_refl _) _⟩
      case measure => simp [intOf]; omega
    · obtain rfl : k = t.reads.length := by omega
      have hown3 := Hown.out
      rw [List.take_length] at hown3
      obtain ⟨A8, c8, rfl, hc8, hs8⟩ := hown3.readc wrR_stays
      have Hs8 := Lib.hid hs8
      have Hsp := Lib.hid hown3
      clear hs8 hown3 Hown
      obtain ⟨wn, rfl⟩ : ∃ wn : World, wn = wr := ⟨_, rfl⟩
      obtain ⟨A7, rfl⟩ : ∃ A7, A7 = A8 := ⟨_, rfl⟩
      obtain ⟨c7, rfl⟩ : ∃ c7, c7 = c8 := ⟨_, rfl⟩
      have hc7 := hc8
      have HxN := Lib.hid ((Hbel.out.block _ (by omega)).trans Hx.out)
      have HyN := Lib.hid ((Hbel.out.block _ (by omega)).trans Hy.out)
      have HzN := Lib.hid Hcx.out
      have HbN := Lib.hid Hbw.out
      have hbzN := hbz
      have Hs7 := Lib.hid Hsp.out
      clear hc8 Hs8 Hsp Hcx Hbw Hbel hlt hk hbz Hx Hy Hz
      go_wp2
      clear g0 g1 g2
      go_loopw [6] (fun i wr => ∃ (k : Nat) (v : Value), k ≤ t.writes.length ∧ i = .int .i64 k ∧ Own 4 WrR (From wn.heap.size) wr wn.heap.size 94 v (t.writes.take k) ∧ wr.heap[w.heap.size + 2]? = some (.cells #[.int .i64 t.start, .slice A7 t.reads.length c7, v] 79 (0, 0)) ∧ Below (w.heap.size + 2) wn wr ∧ Same (fun b => w0.heap.size ≤ b ∧ b < wn.heap.size) wn wr) (fun i _ => t.writes.length - (intOf i).toNat)
      case atStart => exact ⟨0, _, by omega, rfl, Own.nil _ _ _, HzN.out, Below.refl _ _, Same.refl _ _⟩
      case round =>
        obtain ⟨k, v, hk, rfl, hown, hcx, hbel, hsm⟩ := hrel
        have Hbel := Lib.hid hbel
        have Hown := Lib.hid hown
        have Hcx := Lib.hid hcx
        have hbz := hbel.size
        have Hsm := Lib.hid hsm; clear hsm
        have Hbw := Lib.hid (HbN.out.trans (hbel.mono (by omega)))
        obtain ⟨g0, g1, g2, _⟩ := box3 ((hbel.block _ (by omega)).trans HxN.out)
        clear hown hbel hcx
        by_cases hlt : k < t.writes.length
        · obtain ⟨g, off, A1, a1, B1, b1, C1, c1, rfl, _, hal, hc1, hc2, hc3, hc4, hs1, hs2, hs3, hb1, hb2, hb3⟩ := wrs_at (Hb.out.below wrR_stays Hbw.out) hlt
          have Hsn := Lib.hid (take_snoc t.writes k hlt)
          have hl8 : (t.writes.take k ++ [t.writes[k]]).length = k + 1 := by rw [List.length_append, List.length_take, List.length_singleton]; omega
          generalize t.writes[k] = x at *
          have Hs1 := Lib.hid hs1.bz
          have Hs2 := Lib.hid hs2.bz
          have Hs3 := Lib.hid hs3.bz
          clear hs1 hs2 hs3
          go_wp2_with (first
            | (go_at_call 73; refine (writeCopy_ok _ A1 B1 C1 x a1 b1 c1 Hs1.out Hs2.out Hs3.out hb1 hb2 hb3).mono ?_; rintro e w1 ⟨A2, a2, B2, b2, C2, c2, rfl, gs1, gs2, gs3, hbw1⟩; have hzw1 := hbw1.size; have hzq : w.heap.size + 2 < w1.heap.size := (by omega); have Gs1 := Lib.hid gs1; have Gs2 := Lib.hid gs2; have Gs3 := Lib.hid gs3; have hbx1 := (hbw1.block _ (by omega)).trans Hcx.out; obtain ⟨ge0, ge1, ge2, _⟩ := box3 hbx1; have Hbx1 := Lib.hid hbx1; clear gs1 gs2 gs3 hbx1)
            | (at_builtin; refine wpl_snoc wrR_stays (S := From wn.heap.size) _ rfl _ _ _ rfl wn.heap.size 94 j0 _ 4 80 Try.underlying51 hj0 hy0 hy1 hy2 rfl (by decide) v (t.writes.take k) rfl ?hown _ _ [.slice A2 x.name.length a2, .slice B2 x.key.length b2, .bool x.flag, .slice C2 x.value.length c2] rfl rfl (new_src _ _ [.slice A2 x.name.length a2, .slice B2 x.key.length b2, .bool x.flag, .slice C2 x.value.length c2] _ (by simp)) (by simp [Value.oneCell']) ?hm ?hby ?hba x ?hd ?_; (case hown => (refine Own.below wrR_stays Hown.out ?_; repeat' (first | exact Below.refl _ _ | assumption | refine Below.drew ?_ | refine below_drewN ?_ _ | refine Below.setCell ?_ (by first | (simp; done) | omega | (simp; omega)) _ | refine Below.alloc ?_ (by first | exact Nat.le_refl _ | omega | (simp; done) | (simp; omega)) _))); (case hm => (simp only [List.length_take, maxLen]; omega)); (case hby => (simp only [List.length_take]; omega)); (case hba => (simp; omega)); (case hd => (refine wr_fresh (n := wr.heap.size) Gs1.out Gs2.out Gs3.out hb1 hb2 hb3 ?_ (by first | exact Nat.le_refl _ | omega | (simp; done) | (simp; omega)) (Hown.out.apart _ (Nat.le_refl _)); repeat' (first | exact Same.refl _ _ | assumption | refine Same.drew ?_ | refine Same.drewN ?_ _ | refine Same.alloc ?_ _ | refine Same.setCell ?_ (fun hq => by simp only [From] at hq; first | omega | (simp at hq; done) | (simp at hq; omega)) _))); intro v1 w2 hown2 hbw2; obtain ⟨A8, c8, rfl, _, _⟩ := hown2.readc wrR_stays; have Hown2 := Lib.hid hown2; clear hown2; have hbx2 := (hbw2.block (w.heap.size + 2) (by omega)).trans ((heap_alloc_old _ _ (by simp; omega)).trans ((heap_alloc_old _ _ (by omega)).trans Hbx1.out)); obtain ⟨gf0, gf1, gf2, gf3, gf4, gf5⟩ := box3 hbx2; have hzw2 := hbw2.size; simp at hzw2; have hz22 : w.heap.size + 2 < w2.heap.size := (by omega)))
          go_roundw
          case rel => exact ⟨k + 1, _, by omega, by go_num, by rw [Hsn.out]; exact Hown2.out.same_from wrR_stays ((Same.refl _ _).setCell (fun h => by simp only [From] at h; omega) _), by rw [heap_setCell_same _ _ _ _ _ _ hbx2, hl8]; rfl, ((((Hbel.out.next hbw1 (by omega)).mono (Nat.le_refl _)).alloc (by omega) _).alloc (by simp; omega) _ |>.trans (hbw2.mono (by omega))).setCell (Nat.le_refl _) _, ((((Hsm.out.trans (Same.of_below hbw1)).alloc _).alloc _).trans (Same.of_lt hbw2 (fun k h => h.2))).setCell (fun h => by have := h.1; simp only [] at this; omega) _⟩
          case measure => simp [intOf]; omega
        · obtain rfl : k = t.writes.length := by omega
          have hown3 := Hown.out
          rw [List.take_length] at hown3
          obtain ⟨A8, c8, rfl, hc8, hs8⟩ := hown3.readc wrR_stays
          have Hs8 := Lib.hid hown3
          clear hs8 hown3 Hown
          obtain ⟨ge0, ge1, ge2, _⟩ := box3 Hcx.out
          obtain ⟨gh0, gh1, gh2, gh3, gh4, gh5⟩ := box3 ((Hbel.out.block _ (by omega)).trans HyN.out)
          have hzr : w.heap.size + 1 < wr.heap.size := by omega
          go_wp2
          have hlt7 : ∀ b, blk A7 = some b → w0.heap.size ≤ b ∧ b < wn.heap.size := fun b hb => by
            obtain ⟨xs, h1, _⟩ := Hs7.out
            exact h1.lt b (by rw [own_blk]; exact hb)
          have hlt8 : ∀ b, blk A8 = some b → wn.heap.size ≤ b ∧ b < wr.heap.size := fun b hb => by
            obtain ⟨xs, h1, _⟩ := Hs8.out
            exact h1.lt b (by rw [own_blk]; exact hb)
          refine bodyPost_ret (v := .agg #[.int .i64 t.start, .slice A7 t.reads.length c7, .slice A8 t.writes.length c8]) (by simp [results, Try.results63, go_sem, gh0, gh1, gh2]) rfl ⟨A7, c7, A8, c8, rfl, ⟨hc7, hc8, ?_, ?_, ?_⟩, ?_⟩
          · refine (Hs7.out.keep wrR_stays (T := fun b => w0.heap.size ≤ b ∧ b < wn.heap.size) (S2 := fun b => w0.heap.size ≤ b ∧ b < wn.heap.size) (base' := w.heap.size) Hsm.out (fun b hb h => ⟨h, hb⟩) (fun b hb => hlt7 b (by rw [← own_blk A7]; exact hb)) (fun b hb h => ⟨h, hb⟩) (by omega)).keep wrR_stays (T := From w0.heap.size) ?_ (fun b _ h => h.1) (fun b hb => (hlt7 b (by rw [← own_blk A7]; exact hb)).1) (fun b _ h => ⟨by simp only [From]; omega, fun h8 => by have := hlt8 b h8; omega⟩) (Nat.le_refl _)
            exact ((((Same.refl _ _).setCell (fun h => by simp only [From] at h; omega) _).setCell (fun h => by simp only [From] at h; omega) _).setCell (fun h => by simp only [From] at h; omega) _)
          · refine Hs8.out.keep wrR_stays (T := From wn.heap.size) ?_ (fun b _ h => h) (fun b hb => (hlt8 b (by rw [← own_blk A8]; exact hb)).1) (fun b _ h => ⟨by simp only [From] at *; omega, fun h7 => by have := hlt7 b h7; simp only [From] at h; omega⟩) (by omega)
            exact ((((Same.refl _ _).setCell (fun h => by simp only [From] at h; omega) _).setCell (fun h => by simp only [From] at h; omega) _).setCell (fun h => by simp only [From] at h; omega) _)
          · intro b h7 h8
            have := hlt7 b h7
            have := hlt8 b h8
            omega
          · exact (((Hbw.out.setCell (by simp only []; omega) _).setCell (by simp only []; omega) _).setCell (by simp only []; omega) _)
theorem txnCopy_ok (w : World) (A B : Option Addr) (t : Tx) (n m : Nat) (ha : Ws All w A t.reads) (hb : Ws All w B t.writes) (hn : t.reads.length * 80 ≤ 140737488355328) (hm : t.writes.length * 80 ≤ 140737488355328) :
    Calls Try.prog 63 #[.agg #[.int .i64 t.start, .slice A t.reads.length n, .slice B t.writes.length m]] w (RetTx w t) :=
  (txnCopy_own w A B t n m ha hb hn hm).mono fun _ _ h => h.bare
end Go.Proofs.Ythhcdibimnifaaa
