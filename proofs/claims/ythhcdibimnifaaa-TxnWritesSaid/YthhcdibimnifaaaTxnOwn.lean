/- Walks: txn.writes and txn.own. -/
import Derived.Test.YthhcdibimnifaaaTxnCheck
namespace Go.Proofs.Ythhcdibimnifaaa
open Go.RowKit
set_option linter.unusedVariables false
set_option linter.unusedSimpArgs false

set_option maxRecDepth 100000 in
set_option maxHeartbeats 4000000 in
theorem txnWrites_own (w : World) (A : Option Addr) (l : List Wr) (c : Nat) (ha : Ws All w A l) (hn : l.length * 80 ≤ 140737488355328) :
    Calls Try.prog 140 #[.slice A l.length c] w (RetOwnWs 94 w l) := by
  obtain ⟨i0, hi0, hz0, hz1, hz2⟩ := info_parts info_wr
  have Ha := Lib.hid ha
  clear ha
  go_enter Try.func140, Try.ntmps140
  go_wp2
  go_loopw [3, 8] (fun v i wr => ∃ k : Nat, k ≤ l.length ∧ i = .int .i64 k ∧ Own 4 WrR (From w.heap.size) wr w.heap.size 94 v (l.take k) ∧ Below w.heap.size w wr) (fun _ i _ => l.length - (intOf i).toNat)
  case atStart => exact ⟨0, by omega, rfl, Own.nil _ _ _, Below.refl _ _⟩
  case round =>
    obtain ⟨k, hk, rfl, hown, hbel⟩ := hrel
    have Hbel := Lib.hid hbel
    have Hown := Lib.hid hown
    have hbz := hbel.size
    clear hown hbel
    by_cases hlt : k < l.length
    · obtain ⟨g, off, A1, a1, B1, b1, C1, c1, rfl, _, hal, hc1, hc2, hc3, hc4, hs1, hs2, hs3, hb1, hb2, hb3⟩ := wrs_at (Ha.out.below wrR_stays Hbel.out) hlt
      have Hsn := Lib.hid (take_snoc l k hlt)
      generalize l[k] = x at *
      have Hs1 := Lib.hid hs1.bz
      have Hs2 := Lib.hid hs2.bz
      have Hs3 := Lib.hid hs3.bz
      clear hs1 hs2 hs3
      go_wp2_with fail
      go_region_held3 (fun w' => w'.cell? ⟨wr.heap.size, 0, none⟩ = some (.slice A1 x.name.length a1) ∧ w'.cell? ⟨wr.heap.size, 1, none⟩ = some (.slice B1 x.key.length b1) ∧ w'.cell? ⟨wr.heap.size, 2, none⟩ = some (.bool x.flag) ∧ w'.cell? ⟨wr.heap.size, 3, none⟩ = some (.slice C1 x.value.length c1))
        (first
          | go_keep
          | exact ⟨p0, p1, p2, p3⟩
          | exact ⟨q0, q1, q2, q3⟩
          | exact ⟨r0, r1, r2, r3⟩
          | exact ⟨s0, s1, s2, s3⟩)
        (first
        | (go_at_call 86; (with_reducible refine (clone_ok _ A1 x.name a1 ?ha hb1).mono ?_); (case ha => exact Hs1.out.bsame (by repeat' (first | exact Same.refl _ _ | assumption | refine Same.drew ?_ | refine Same.drewN ?_ _ | refine Same.alloc ?_ _ | refine Same.setCell ?_ (fun hq => by simp only [From] at hq; first | omega | (simp at hq; done) | (simp at hq; omega)) _))); rintro e w6 ⟨A6, c6, rfl, gs6, hbw6⟩; have hb6 : Below wr.heap.size wr w6 := (((Below.refl wr.heap.size wr).alloc (Nat.le_refl _) _).drew).next hbw6 (by simp); have hz6 : wr.heap.size < w6.heap.size := (by have := hbw6.size; simp at this; omega); have hbp6 : w6.heap[wr.heap.size]? = some (.cells #[.slice A1 x.name.length a1, .slice B1 x.key.length b1, .bool x.flag, .slice C1 x.value.length c1] 94 (0, 0)) := (hbw6.block wr.heap.size (by first | (simp; done) | omega | (simp; omega))).trans (box_new wr _ _); obtain ⟨p0, p1, p2, p3, _⟩ := box4 hbp6)
        | (go_at_call 86; (with_reducible refine (clone_ok _ B1 x.key b1 ?ha hb2).mono ?_); (case ha => exact Hs2.out.bbelow hb6); rintro e w7 ⟨A7, c7, rfl, gs7, hbw7⟩; have hb7 : Below wr.heap.size wr w7 := hb6.next hbw7 (by first | exact Nat.le_refl _ | omega | (simp; done) | (simp; omega)); have hz67 : w6.heap.size ≤ w7.heap.size := hbw7.size; have hz7 : wr.heap.size < w7.heap.size := (by omega); have hbp7 := (hbw7.block _ hz6).trans hbp6; obtain ⟨q0, q1, q2, q3, _⟩ := box4 hbp7)
        | (go_at_call 86; (with_reducible refine (clone_ok _ C1 x.value c1 ?ha hb3).mono ?_); (case ha => exact Hs3.out.bbelow hb7); rintro e w8 ⟨A8, c8, rfl, gs8, hbw8⟩; have hb8 : Below wr.heap.size wr w8 := hb7.next hbw8 (by first | exact Nat.le_refl _ | omega | (simp; done) | (simp; omega)); have hz78 : w7.heap.size ≤ w8.heap.size := hbw8.size; have hbp8 := (hbw8.block _ hz7).trans hbp7; obtain ⟨r0, r1, r2, r3, _⟩ := box4 hbp8)
        | (refine step_snocG wrR_stays (S := From w.heap.size) _ rfl (.tmp 12) (.tmp 25) _ rfl w.heap.size 94 i0 _ 4 80 Try.underlying51 hi0 hz0 hz1 hz2 rfl (by decide) u3 (l.take k) ?hs ?hown (some ⟨w8.heap.size, 0, none⟩) 1 [.slice A6 x.name.length c6, .slice A7 x.key.length c7, .bool x.flag, .slice A8 x.value.length c8] ?hx rfl (new_src w8 w8.heap.size [.slice A6 x.name.length c6, .slice A7 x.key.length c7, .bool x.flag, .slice A8 x.value.length c8] _ rfl) (by simp [Value.oneCell']) ?hm ?hby ?hba x ?hd ?_; (case hs => (simp [Act.eval, Act.put])); (case hx => (simp [Act.eval, Act.put])); (case hown => (refine Own.below wrR_stays Hown.out ?_; exact (hb8.alloc (by first | exact Nat.le_refl _ | omega | (simp; done) | (simp; omega)) _))); (case hm => (simp only [List.length_take, maxLen]; omega)); (case hby => (simp only [List.length_take]; omega)); (case hba => (simp; omega)); (case hd => (refine wr_fresh (n := wr.heap.size) ((gs6.bbelow hbw7).bbelow hbw8 |>.blo (by first | exact Nat.le_refl _ | omega | (simp; done) | (simp; omega))) (gs7.bbelow hbw8 |>.blo (by first | exact Nat.le_refl _ | omega | (simp; done) | (simp; omega))) (gs8.blo (by first | exact Nat.le_refl _ | omega | (simp; done) | (simp; omega))) hb1 hb2 hb3 ?_ (by first | exact Nat.le_refl _ | omega | (simp; done) | (simp; omega)) (Hown.out.apart _ (Nat.le_refl _)); repeat' (first | exact Same.refl _ _ | assumption | refine Same.drew ?_ | refine Same.drewN ?_ _ | refine Same.alloc ?_ _ | refine Same.setCell ?_ (fun hq => by simp only [From] at hq; first | omega | (simp at hq; done) | (simp at hq; omega)) _))); intro v9 w9 hown9 hbw9 hgr9; have Hown9 := Lib.hid hown9; have hbp9 := (hgr9.block wr.heap.size (by simp; omega) (fun e => Hown.out.apart _ (Nat.le_refl _) _ (Nat.le_refl _) e.symm)).trans ((heap_alloc_old _ _ (by omega)).trans hbp8); obtain ⟨s0, s1, s2, s3, _⟩ := box4 hbp9; clear hown9))
      all_goals
        go_wp2
        go_roundw
        case rel => exact ⟨k + 1, by omega, by go_num, by rw [Hsn.out]; exact Hown9.out, ((Hbel.out.trans (hb8.mono hbz)).alloc (by omega) _).trans hbw9⟩
        case measure => simp [intOf]; omega
    · go_wp2
      go_ret
      obtain rfl : k = l.length := by omega
      have h := Hown.out
      rw [List.take_length] at h
      exact ⟨_, rfl, h, Hbel.out⟩
/-- The variable 'out' of own at block G. -/
structure OutAt (w : World) (A B : Option Addr) (n m : Nat) (B1 : Option Addr) (m1 : Nat) (t : Tx) (W : World) (G : Nat) : Prop where
  x : W.heap[w.heap.size]? = some (.cells #[.int .i64 t.start, .slice A t.reads.length n, .slice B t.writes.length m] 79 (0, 0))
  y : W.heap[w.heap.size + 1]? = some (.cells #[.int .i64 0, .slice none 0 0, .slice none 0 0] 79 (0, 0))
  z : W.heap[G]? = some (.cells #[.int .i64 t.start, .slice none 0 0, .slice B1 t.writes.length m1] 79 (0, 0))
  lo : w.heap.size + 2 ≤ G
  hi : G < W.heap.size
  b : Below w.heap.size w W
  s : Own 4 WrR (fun b => w.heap.size + 2 ≤ b ∧ b ≠ G) W (w.heap.size + 2) 94 (.slice B1 t.writes.length m1) t.writes
  g : blk B1 ≠ some G
def RetOwnSl (w : World) (l : List Wr) (e : Ending) (w' : World) : Prop :=
  ∃ A c, e = .returned (.slice A l.length c) ∧ l.length ≤ c ∧ Own 4 WrR (From w.heap.size) w' w.heap.size 94 (.slice A l.length c) l ∧ Below w.heap.size w w'
theorem txnWrites_ok (w : World) (A : Option Addr) (l : List Wr) (c : Nat) (ha : Ws All w A l) (hn : l.length * 80 ≤ 140737488355328) :
    Calls Try.prog 140 #[.slice A l.length c] w (RetOwnSl w l) :=
  (txnWrites_own w A l c ha hn).mono fun e w' ⟨v, he, hown, hb⟩ => by
    obtain ⟨A', c', rfl, hc, hs⟩ := hown.readc wrR_stays
    exact ⟨A', c', he, hc, hown, hb⟩
theorem Own.blt {α : Type} {size : Nat} {R : (Nat → Prop) → World → List Value → α → Prop} {S : Nat → Prop} {w : World} {base : Nat} {e : TypeId} {A : Option Addr} {l : List α} {n c : Nat} (h : Own size R S w base e (.slice A n c) l) : ∀ b, blk A = some b → base ≤ b ∧ b < w.heap.size := fun b hb => by
  obtain ⟨xs, h1, _⟩ := h
  exact h1.lt b (by rw [own_blk]; exact hb)
set_option maxRecDepth 100000 in
set_option maxHeartbeats 8000000 in
theorem txnOwn_own (w : World) (A B : Option Addr) (t : Tx) (n m : Nat) (ha : Ws All w A t.reads) (hb : Ws All w B t.writes) (hn : t.reads.length * 80 ≤ 140737488355328) (hm : t.writes.length * 80 ≤ 140737488355328) :
    Calls Try.prog 137 #[.agg #[.int .i64 t.start, .slice A t.reads.length n, .slice B t.writes.length m]] w (RetTxO w t) := by
  obtain ⟨i0, hi0, hz0, hz1, hz2⟩ := info_parts info_rd
  have Ha := Lib.hid ha
  have Hb := Lib.hid hb
  clear ha hb
  obtain ⟨hx, hy, hsz, hbl⟩ := alloc2 w (.cells #[.int .i64 t.start, .slice A t.reads.length n, .slice B t.writes.length m] 79) (.cells #[.int .i64 0, .slice none 0 0, .slice none 0 0] 79)
  obtain ⟨g0, g1, g2, _⟩ := box3 hx
  have Hx := Lib.hid hx
  have Hy := Lib.hid hy
  have Hbl := Lib.hid hbl
  have Hsz := Lib.hid hsz
  have Hz2 := Lib.hid (show (((w.alloc (.cells #[.int .i64 t.start, .slice A t.reads.length n, .slice B t.writes.length m] 79)).alloc (.cells #[.int .i64 0, .slice none 0 0, .slice none 0 0] 79)).drew.alloc (.cells #[.int .i64 0, .slice none 0 0, .slice none 0 0] 79)).heap[w.heap.size + 2]? = some (.cells #[.int .i64 0, .slice none 0 0, .slice none 0 0] 79) by have := heap_alloc_new ((w.alloc (.cells #[.int .i64 t.start, .slice A t.reads.length n, .slice B t.writes.length m] 79)).alloc (.cells #[.int .i64 0, .slice none 0 0, .slice none 0 0] 79)).drew (.cells #[.int .i64 0, .slice none 0 0, .slice none 0 0] 79); simpa using this)
  clear hx hy hbl hsz
  go_enter Try.func137, Try.ntmps137
  go_wp2_with fail
  go_region_held3 (fun w' => w'.cell? ⟨w.heap.size, 0, none⟩ = some (.int .i64 t.start) ∧ w'.cell? ⟨w.heap.size, 1, none⟩ = some (.slice A t.reads.length n) ∧ w'.cell? ⟨w.heap.size, 2, none⟩ = some (.slice B t.writes.length m))
    (first
      | go_keep
      | exact ⟨q0, q1, q2⟩
      | (go_split_ands; exact ⟨(((Below.refl _ w1).alloc (Nat.le_refl _) _).cell hzp).trans (by assumption), (((Below.refl _ w1).alloc (Nat.le_refl _) _).cell hzp).trans (by assumption), (((Below.refl _ w1).alloc (Nat.le_refl _) _).cell hzp).trans (by assumption)⟩)
      | (go_split_ands; exact ⟨(((((Below.refl (w.heap.size + 1 + 1) w1).setCell (Nat.le_refl _) _).setCell (Nat.le_refl _) _).setCell (Nat.le_refl _) _).cell (by first | (simp; done) | omega | (simp; omega))).trans (by assumption), (((((Below.refl (w.heap.size + 1 + 1) w1).setCell (Nat.le_refl _) _).setCell (Nat.le_refl _) _).setCell (Nat.le_refl _) _).cell (by first | (simp; done) | omega | (simp; omega))).trans (by assumption), (((((Below.refl (w.heap.size + 1 + 1) w1).setCell (Nat.le_refl _) _).setCell (Nat.le_refl _) _).setCell (Nat.le_refl _) _).cell (by first | (simp; done) | omega | (simp; omega))).trans (by assumption)⟩))
    ((go_at_call 140; (with_reducible refine (txnWrites_ok _ B t.writes m ?hx hm).mono ?_); (case hx => (refine (Hb.out.below wrR_stays Hbl.out).same wrR_stays ?_; repeat' (first | exact Same.refl _ _ | assumption | refine Same.drew ?_ | refine Same.drewN ?_ _ | refine Same.alloc ?_ _ | refine Same.setCell ?_ (fun hq => by simp only [From] at hq; first | omega | (simp at hq; done) | (simp at hq; omega)) _))); rintro e w1 ⟨B1, m1, rfl, hc1, hs1, hb1⟩; have hx1 : w1.heap[w.heap.size]? = some (.cells #[.int .i64 t.start, .slice A t.reads.length n, .slice B t.writes.length m] 79 (0, 0)) := (hb1.block w.heap.size (by first | (simp; done) | omega | (simp; omega))).trans (by first | exact Hx.out | exact (heap_alloc_old _ _ (by first | (simp; done) | omega | (simp; omega))).trans Hx.out); have hy1 : w1.heap[w.heap.size + 1]? = some (.cells #[.int .i64 0, .slice none 0 0, .slice none 0 0] 79 (0, 0)) := (hb1.block (w.heap.size + 1) (by first | (simp; done) | omega | (simp; omega))).trans (by first | exact Hy.out | exact (heap_alloc_old _ _ (by first | (simp; done) | omega | (simp; omega))).trans Hy.out); obtain ⟨q0, q1, q2, _⟩ := box3 hx1; have hzp : w.heap.size < w1.heap.size := (by have hq1 := hb1.size; simp at hq1; omega); (try (have hz2 : w1.heap[w.heap.size + 2]? = some (.cells #[.int .i64 0, .slice none 0 0, .slice none 0 0] 79 (0, 0)) := (hb1.block (w.heap.size + 2) (by first | (simp; done) | omega | (simp; omega))).trans Hz2.out; obtain ⟨e0, e1, e2, e3, e4, e5⟩ := box3 hz2; have hzl : w.heap.size + 1 + 1 < w1.heap.size := (by have hq1 := hb1.size; simp at hq1; omega)))))
  · go_wp2_with fail
    have hF : OutAt w A B n m B1 m1 t (w1.alloc (.cells #[.int .i64 t.start, .slice none 0 0, .slice B1 t.writes.length m1] 79)) w1.heap.size := by
      have hq1 := hb1.size
      simp at hq1
      have hlt1 := hs1.blt
      simp at hlt1
      refine ⟨(heap_alloc_old _ _ hzp).trans hx1, (heap_alloc_old _ _ (by omega)).trans hy1, box_new w1 _ _, by omega, by simp, ?_, ?_, fun h => by have := hlt1 _ h; omega⟩
      · exact (Hbl.out.drew.next hb1 (by first | (simp; done) | omega | (simp; omega))).alloc (by omega) _
      · exact hs1.keep wrR_stays (T := All) ((Same.refl _ _).alloc _) (fun _ _ _ => trivial) (fun _ _ => trivial) (fun b hb h => ⟨by simp only [From] at h; simp at h; omega, by omega⟩) (by simp)
    have HF := Lib.hid hF
    clear hF hb1 hs1 hx1 hy1 q0 q1 q2 hzp
    generalize w1.alloc (.cells #[.int .i64 t.start, .slice none 0 0, .slice B1 t.writes.length m1] 79) = W0 at *
    generalize w1.heap.size = G at *
    have hlo := HF.out.lo
    have hhi := HF.out.hi
    go_loopw [15] (fun i wr => ∃ (k : Nat) (v : Value), k ≤ t.reads.length ∧ i = .int .i64 k ∧ Own 4 WrR (From W0.heap.size) wr W0.heap.size 88 v (t.reads.take k) ∧ wr.heap[G]? = some (.cells #[.int .i64 t.start, v, .slice B1 t.writes.length m1] 79 (0, 0)) ∧ Below w.heap.size W0 wr ∧ Same (fun b => b < W0.heap.size ∧ b ≠ G) W0 wr) (fun i _ => t.reads.length - (intOf i).toNat)
    case atStart => exact ⟨0, _, by omega, rfl, Own.nil _ _ _, HF.out.z, Below.refl _ _, Same.refl _ _⟩
    case round =>
      obtain ⟨k, v, hk, rfl, hown, hcx, hbel, hsm⟩ := hrel
      have Hbel := Lib.hid hbel
      have Hown := Lib.hid hown
      have Hcx := Lib.hid hcx
      have Hsm := Lib.hid hsm
      have hbz := hbel.size
      have Hbw := Lib.hid (HF.out.b.trans hbel)
      clear hown hbel hcx hsm
      by_cases hlt : k < t.reads.length
      · obtain ⟨g, off, A1, a1, B2, b2, C1, c1, rfl, _, hal, hc1, hc2, hc3, hc4, hs1, hs2, hs3, hb1, hb2, hb3⟩ := wrs_at (Ha.out.below wrR_stays Hbw.out) hlt
        have Hsn := Lib.hid (take_snoc t.reads k hlt)
        have hl8 : (t.reads.take k ++ [t.reads[k]]).length = k + 1 := by rw [List.length_append, List.length_take, List.length_singleton]; omega
        generalize t.reads[k] = x at *
        have Hs1 := Lib.hid hs1.bz
        have Hs2 := Lib.hid hs2.bz
        have Hs3 := Lib.hid hs3.bz
        have hGr : G < wr.heap.size := by omega
        have hbox : (wr.alloc (.cells #[.slice A1 x.name.length a1, .slice B2 x.key.length b2, .bool x.flag, .slice C1 x.value.length c1] 88)).heap[G]? = some (.cells #[.int .i64 t.start, v, .slice B1 t.writes.length m1] 79 (0, 0)) := by rw [heap_alloc_old _ _ hGr]; exact Hcx.out
        obtain ⟨gc0, gc1, gc2, _⟩ := box3 hbox
        have Hbox := Lib.hid hbox
        clear hbox hs1 hs2 hs3
        go_wp2_with fail
        go_region_law (first
          | (go_simp; go_at_call 139; (with_reducible refine (txnRead_ok _ A1 B2 C1 x a1 b2 c1 ?h1 ?h2 ?h3 hb1 hb2 hb3).mono ?_); (case h1 => exact Hs1.out.bsame (by repeat' (first | exact Same.refl _ _ | assumption | refine Same.drew ?_ | refine Same.drewN ?_ _ | refine Same.alloc ?_ _ | refine Same.setCell ?_ (fun hq => by simp only [From] at hq; first | omega | (simp at hq; done) | (simp at hq; omega)) _))); (case h2 => exact Hs2.out.bsame (by repeat' (first | exact Same.refl _ _ | assumption | refine Same.drew ?_ | refine Same.drewN ?_ _ | refine Same.alloc ?_ _ | refine Same.setCell ?_ (fun hq => by simp only [From] at hq; first | omega | (simp at hq; done) | (simp at hq; omega)) _))); (case h3 => exact Hs3.out.bsame (by repeat' (first | exact Same.refl _ _ | assumption | refine Same.drew ?_ | refine Same.drewN ?_ _ | refine Same.alloc ?_ _ | refine Same.setCell ?_ (fun hq => by simp only [From] at hq; first | omega | (simp at hq; done) | (simp at hq; omega)) _))); rintro e w6 ⟨A6, a6, B6, b6, C6, c6, rfl, gs1, gs2, gs3, hbw6⟩; have hb6 : Below wr.heap.size wr w6 := (((Below.refl wr.heap.size wr).alloc (Nat.le_refl _) _).drew).next hbw6 (by simp); have hz6 : wr.heap.size < w6.heap.size := (by have := hbw6.size; simp at this; omega); have hbx6 := (hb6.block G hGr).trans Hcx.out; obtain ⟨ga0, ga1, ga2, _⟩ := box3 hbx6; have hG6 : G < w6.heap.size := (by omega))
          | (refine step_snocG wrR_stays (S := From W0.heap.size) _ rfl (.tmp 20) (.tmp 23) _ rfl W0.heap.size 88 i0 _ 4 80 Try.underlying77 hi0 hz0 hz1 hz2 rfl (by decide) v (t.reads.take k) ?hs ?hown (some ⟨w6.heap.size, 0, none⟩) 1 [.slice A6 x.name.length a6, .slice B6 x.key.length b6, .bool x.flag, .slice C6 x.value.length c6] ?hx rfl (new_src w6 w6.heap.size [.slice A6 x.name.length a6, .slice B6 x.key.length b6, .bool x.flag, .slice C6 x.value.length c6] _ rfl) (by simp [Value.oneCell']) ?hm ?hby ?hba x ?hd ?_; (case hs => (simp [Act.eval, Act.put])); (case hx => (simp [Act.eval, Act.put])); (case hown => (refine Own.below wrR_stays Hown.out ?_; exact (hb6.alloc (by first | exact Nat.le_refl _ | omega | (simp; done) | (simp; omega)) _))); (case hm => (simp only [List.length_take, maxLen]; omega)); (case hby => (simp only [List.length_take]; omega)); (case hba => (simp; omega)); (case hd => (refine wr_fresh (n := wr.heap.size) (gs1.blo (by first | exact Nat.le_refl _ | omega | (simp; done) | (simp; omega))) (gs2.blo (by first | exact Nat.le_refl _ | omega | (simp; done) | (simp; omega))) (gs3.blo (by first | exact Nat.le_refl _ | omega | (simp; done) | (simp; omega))) hb1 hb2 hb3 ?_ (by first | exact Nat.le_refl _ | omega | (simp; done) | (simp; omega)) (Hown.out.apart _ (Nat.le_refl _)); repeat' (first | exact Same.refl _ _ | assumption | refine Same.drew ?_ | refine Same.drewN ?_ _ | refine Same.alloc ?_ _ | refine Same.setCell ?_ (fun hq => by simp only [From] at hq; first | omega | (simp at hq; done) | (simp at hq; omega)) _))); intro v8 w8 hown8 hbw8 hgr8; obtain ⟨A8, c8, rfl, _, _⟩ := hown8.readc wrR_stays; have Hown8 := Lib.hid hown8; clear hown8; have hbx8 : w8.heap[G]? = some (.cells #[.int .i64 t.start, v, .slice B1 t.writes.length m1] 79 (0, 0)) := (hbw8.block G hhi).trans ((heap_alloc_old _ _ hG6).trans hbx6); obtain ⟨ge0, ge1, ge2, ge3, ge4, ge5⟩ := box3 hbx8))
        all_goals
          go_wp2
          go_roundw
          case rel => exact ⟨k + 1, _, by omega, by go_num, by rw [Hsn.out]; exact Hown8.out.same_from wrR_stays ((Same.refl _ _).setCell (fun h => by simp only [From] at h; omega) _), by rw [heap_setCell_same _ _ _ _ _ _ hbx8, hl8]; rfl, (((Hbel.out.trans (hb6.mono (by omega))).alloc (by omega) _).trans (hbw8.mono (by omega))).setCell (by simp only []; omega) _, (((Hsm.out.trans (Same.of_below hb6)).alloc _).trans (Same.of_lt hbw8 (fun k h => h.1))).setCell (fun h => h.2 rfl) _⟩
          case measure => simp [intOf]; omega
      · obtain rfl : k = t.reads.length := by omega
        have hown3 := Hown.out
        rw [List.take_length] at hown3
        obtain ⟨A8, c8, rfl, hc8, _⟩ := hown3.readc wrR_stays
        have Hs8 := Lib.hid hown3
        obtain ⟨ge0, ge1, ge2, _⟩ := box3 Hcx.out
        obtain ⟨gh0, gh1, gh2, gh3, gh4, gh5⟩ := box3 ((Hsm.out.block (w.heap.size + 1) ⟨by omega, by omega⟩ (by omega)).trans HF.out.y)
        have hzr : w.heap.size + 1 < wr.heap.size := by omega
        clear hown3 Hown
        go_wp2
        have hlt8 := Hs8.out.blt
        have hlt1 := HF.out.s.blt
        have hg1 := HF.out.g
        refine bodyPost_ret (v := .agg #[.int .i64 t.start, .slice A8 t.reads.length c8, .slice B1 t.writes.length m1]) (by simp [results, Try.results137, go_sem, gh0, gh1, gh2]) rfl ⟨A8, c8, B1, m1, rfl, ⟨hc8, hc1, ?_, ?_, ?_⟩, ?_⟩
        · refine Hs8.out.keep wrR_stays (T := From W0.heap.size) ?_ (fun b _ h => h) (fun b hb => (hlt8 b (by rw [← own_blk A8]; exact hb)).1) (fun b _ h => ⟨by simp only [From] at *; omega, fun h7 => by have := hlt1 b h7; simp only [From] at h; omega⟩) (by omega)
          exact ((((Same.refl _ _).setCell (fun h => by simp only [From] at h; omega) _).setCell (fun h => by simp only [From] at h; omega) _).setCell (fun h => by simp only [From] at h; omega) _)
        · refine (HF.out.s.keep wrR_stays (T := fun b => b < W0.heap.size ∧ b ≠ G) (S2 := fun b => w.heap.size + 2 ≤ b ∧ b < W0.heap.size) (base' := w.heap.size) Hsm.out (fun b hb h => ⟨hb, h.2⟩) (fun b hb => ⟨(hlt1 b (by rw [← own_blk B1]; exact hb)).2, fun e => hg1 (by rw [own_blk] at hb; rw [hb, e])⟩) (fun b hb h => ⟨h.1, hb⟩) (by omega)).keep wrR_stays (T := From (w.heap.size + 2)) ?_ (fun b _ h => h.1) (fun b hb => (hlt1 b (by rw [← own_blk B1]; exact hb)).1) (fun b _ h => ⟨by simp only [From]; omega, fun h8 => by have := hlt8 b h8; omega⟩) (Nat.le_refl _)
          exact ((((Same.refl _ _).setCell (fun h => by simp only [From] at h; omega) _).setCell (fun h => by simp only [From] at h; omega) _).setCell (fun h => by simp only [From] at h; omega) _)
        · intro b h8 h1
          have := hlt8 b h8
          have := hlt1 b h1
          omega
        · exact (((Hbw.out.setCell (by simp only []; omega) _).setCell (by simp only []; omega) _).setCell (by simp only []; omega) _)
  · go_wp2_with fail
    have hF : OutAt w A B n m B1 m1 t (((w1.setCell ⟨w.heap.size + 1 + 1, 0, none⟩ (.int .i64 t.start)).setCell ⟨w.heap.size + 1 + 1, 1, none⟩ (.slice none 0 0)).setCell ⟨w.heap.size + 1 + 1, 2, none⟩ (.slice B1 t.writes.length m1)) (w.heap.size + 1 + 1) := by
      have hq1 := hb1.size
      simp at hq1
      have hlw : Below (w.heap.size + 1 + 1) w1 (((w1.setCell ⟨w.heap.size + 1 + 1, 0, none⟩ (.int .i64 t.start)).setCell ⟨w.heap.size + 1 + 1, 1, none⟩ (.slice none 0 0)).setCell ⟨w.heap.size + 1 + 1, 2, none⟩ (.slice B1 t.writes.length m1)) := (((Below.refl (w.heap.size + 1 + 1) w1).setCell (p := ⟨w.heap.size + 1 + 1, 0, none⟩) (Nat.le_refl _) _).setCell (p := ⟨w.heap.size + 1 + 1, 1, none⟩) (Nat.le_refl _) _).setCell (p := ⟨w.heap.size + 1 + 1, 2, none⟩) (Nat.le_refl _) _
      have hlt1 := hs1.blt
      simp at hlt1
      refine ⟨(hlw.block _ (by omega)).trans hx1, (hlw.block _ (by omega)).trans hy1, ?_, by omega, by simpa using hzl, ?_, ?_, fun h => by have := hlt1 _ h; omega⟩
      · rw [heap_setCell_same _ _ _ _ _ _ (heap_setCell_same _ _ _ _ _ _ (heap_setCell_same _ _ _ _ _ _ hz2))]
        rfl
      · exact ((Hbl.out.drew.alloc (by first | (simp; done) | omega | (simp; omega)) _).next hb1 (by first | (simp; done) | omega | (simp; omega))).trans (hlw.mono (by omega))
      · refine hs1.keep wrR_stays (T := fun b => b ≠ w.heap.size + 1 + 1) ?_ (fun b _ h => by simp only [From] at h; simp at h; omega) (fun b hb => by rw [own_blk] at hb; have := hlt1 b hb; omega) (fun b hb h => ⟨by simp only [From] at h; simp at h; omega, by simp only [From] at h; simp at h; omega⟩) (by simp)
        exact (((Same.refl _ _).setCell (fun h => h rfl) _).setCell (fun h => h rfl) _).setCell (fun h => h rfl) _
    have HF := Lib.hid hF
    clear hF hb1 hs1 hx1 hy1 q0 q1 q2 hzp hz2 hzl e0 e1 e2 e3 e4 e5
    generalize (((w1.setCell ⟨w.heap.size + 1 + 1, 0, none⟩ (.int .i64 t.start)).setCell ⟨w.heap.size + 1 + 1, 1, none⟩ (.slice none 0 0)).setCell ⟨w.heap.size + 1 + 1, 2, none⟩ (.slice B1 t.writes.length m1)) = W0 at *
    obtain ⟨G, hG⟩ : ∃ G, G = w.heap.size + 1 + 1 := ⟨_, rfl⟩
    rw [← hG] at HF ⊢
    clear hG
    have hlo := HF.out.lo
    have hhi := HF.out.hi
    go_loopw [15] (fun i wr => ∃ (k : Nat) (v : Value), k ≤ t.reads.length ∧ i = .int .i64 k ∧ Own 4 WrR (From W0.heap.size) wr W0.heap.size 88 v (t.reads.take k) ∧ wr.heap[G]? = some (.cells #[.int .i64 t.start, v, .slice B1 t.writes.length m1] 79 (0, 0)) ∧ Below w.heap.size W0 wr ∧ Same (fun b => b < W0.heap.size ∧ b ≠ G) W0 wr) (fun i _ => t.reads.length - (intOf i).toNat)
    case atStart => exact ⟨0, _, by omega, rfl, Own.nil _ _ _, HF.out.z, Below.refl _ _, Same.refl _ _⟩
    case round =>
      obtain ⟨k, v, hk, rfl, hown, hcx, hbel, hsm⟩ := hrel
      have Hbel := Lib.hid hbel
      have Hown := Lib.hid hown
      have Hcx := Lib.hid hcx
      have Hsm := Lib.hid hsm
      have hbz := hbel.size
      have Hbw := Lib.hid (HF.out.b.trans hbel)
      clear hown hbel hcx hsm
      by_cases hlt : k < t.reads.length
      · obtain ⟨g, off, A1, a1, B2, b2, C1, c1, rfl, _, hal, hc1, hc2, hc3, hc4, hs1, hs2, hs3, hb1, hb2, hb3⟩ := wrs_at (Ha.out.below wrR_stays Hbw.out) hlt
        have Hsn := Lib.hid (take_snoc t.reads k hlt)
        have hl8 : (t.reads.take k ++ [t.reads[k]]).length = k + 1 := by rw [List.length_append, List.length_take, List.length_singleton]; omega
        generalize t.reads[k] = x at *
        have Hs1 := Lib.hid hs1.bz
        have Hs2 := Lib.hid hs2.bz
        have Hs3 := Lib.hid hs3.bz
        have hGr : G < wr.heap.size := by omega
        have hbox : (wr.alloc (.cells #[.slice A1 x.name.length a1, .slice B2 x.key.length b2, .bool x.flag, .slice C1 x.value.length c1] 88)).heap[G]? = some (.cells #[.int .i64 t.start, v, .slice B1 t.writes.length m1] 79 (0, 0)) := by rw [heap_alloc_old _ _ hGr]; exact Hcx.out
        obtain ⟨gc0, gc1, gc2, _⟩ := box3 hbox
        have Hbox := Lib.hid hbox
        clear hbox hs1 hs2 hs3
        go_wp2_with fail
        go_region_law (first
          | (go_simp; go_at_call 139; (with_reducible refine (txnRead_ok _ A1 B2 C1 x a1 b2 c1 ?h1 ?h2 ?h3 hb1 hb2 hb3).mono ?_); (case h1 => exact Hs1.out.bsame (by repeat' (first | exact Same.refl _ _ | assumption | refine Same.drew ?_ | refine Same.drewN ?_ _ | refine Same.alloc ?_ _ | refine Same.setCell ?_ (fun hq => by simp only [From] at hq; first | omega | (simp at hq; done) | (simp at hq; omega)) _))); (case h2 => exact Hs2.out.bsame (by repeat' (first | exact Same.refl _ _ | assumption | refine Same.drew ?_ | refine Same.drewN ?_ _ | refine Same.alloc ?_ _ | refine Same.setCell ?_ (fun hq => by simp only [From] at hq; first | omega | (simp at hq; done) | (simp at hq; omega)) _))); (case h3 => exact Hs3.out.bsame (by repeat' (first | exact Same.refl _ _ | assumption | refine Same.drew ?_ | refine Same.drewN ?_ _ | refine Same.alloc ?_ _ | refine Same.setCell ?_ (fun hq => by simp only [From] at hq; first | omega | (simp at hq; done) | (simp at hq; omega)) _))); rintro e w6 ⟨A6, a6, B6, b6, C6, c6, rfl, gs1, gs2, gs3, hbw6⟩; have hb6 : Below wr.heap.size wr w6 := (((Below.refl wr.heap.size wr).alloc (Nat.le_refl _) _).drew).next hbw6 (by simp); have hz6 : wr.heap.size < w6.heap.size := (by have := hbw6.size; simp at this; omega); have hbx6 := (hb6.block G hGr).trans Hcx.out; obtain ⟨ga0, ga1, ga2, _⟩ := box3 hbx6; have hG6 : G < w6.heap.size := (by omega))
          | (refine step_snocG wrR_stays (S := From W0.heap.size) _ rfl (.tmp 20) (.tmp 23) _ rfl W0.heap.size 88 i0 _ 4 80 Try.underlying77 hi0 hz0 hz1 hz2 rfl (by decide) v (t.reads.take k) ?hs ?hown (some ⟨w6.heap.size, 0, none⟩) 1 [.slice A6 x.name.length a6, .slice B6 x.key.length b6, .bool x.flag, .slice C6 x.value.length c6] ?hx rfl (new_src w6 w6.heap.size [.slice A6 x.name.length a6, .slice B6 x.key.length b6, .bool x.flag, .slice C6 x.value.length c6] _ rfl) (by simp [Value.oneCell']) ?hm ?hby ?hba x ?hd ?_; (case hs => (simp [Act.eval, Act.put])); (case hx => (simp [Act.eval, Act.put])); (case hown => (refine Own.below wrR_stays Hown.out ?_; exact (hb6.alloc (by first | exact Nat.le_refl _ | omega | (simp; done) | (simp; omega)) _))); (case hm => (simp only [List.length_take, maxLen]; omega)); (case hby => (simp only [List.length_take]; omega)); (case hba => (simp; omega)); (case hd => (refine wr_fresh (n := wr.heap.size) (gs1.blo (by first | exact Nat.le_refl _ | omega | (simp; done) | (simp; omega))) (gs2.blo (by first | exact Nat.le_refl _ | omega | (simp; done) | (simp; omega))) (gs3.blo (by first | exact Nat.le_refl _ | omega | (simp; done) | (simp; omega))) hb1 hb2 hb3 ?_ (by first | exact Nat.le_refl _ | omega | (simp; done) | (simp; omega)) (Hown.out.apart _ (Nat.le_refl _)); repeat' (first | exact Same.refl _ _ | assumption | refine Same.drew ?_ | refine Same.drewN ?_ _ | refine Same.alloc ?_ _ | refine Same.setCell ?_ (fun hq => by simp only [From] at hq; first | omega | (simp at hq; done) | (simp at hq; omega)) _))); intro v8 w8 hown8 hbw8 hgr8; obtain ⟨A8, c8, rfl, _, _⟩ := hown8.readc wrR_stays; have Hown8 := Lib.hid hown8; clear hown8; have hbx8 : w8.heap[G]? = some (.cells #[.int .i64 t.start, v, .slice B1 t.writes.length m1] 79 (0, 0)) := (hbw8.block G hhi).trans ((heap_alloc_old _ _ hG6).trans hbx6); obtain ⟨ge0, ge1, ge2, ge3, ge4, ge5⟩ := box3 hbx8))
        all_goals
          go_wp2
          go_roundw
          case rel => exact ⟨k + 1, _, by omega, by go_num, by rw [Hsn.out]; exact Hown8.out.same_from wrR_stays ((Same.refl _ _).setCell (fun h => by simp only [From] at h; omega) _), by rw [heap_setCell_same _ _ _ _ _ _ hbx8, hl8]; rfl, (((Hbel.out.trans (hb6.mono (by omega))).alloc (by omega) _).trans (hbw8.mono (by omega))).setCell (by simp only []; omega) _, (((Hsm.out.trans (Same.of_below hb6)).alloc _).trans (Same.of_lt hbw8 (fun k h => h.1))).setCell (fun h => h.2 rfl) _⟩
          case measure => simp [intOf]; omega
      · obtain rfl : k = t.reads.length := by omega
        have hown3 := Hown.out
        rw [List.take_length] at hown3
        obtain ⟨A8, c8, rfl, hc8, _⟩ := hown3.readc wrR_stays
        have Hs8 := Lib.hid hown3
        obtain ⟨ge0, ge1, ge2, _⟩ := box3 Hcx.out
        obtain ⟨gh0, gh1, gh2, gh3, gh4, gh5⟩ := box3 ((Hsm.out.block (w.heap.size + 1) ⟨by omega, by omega⟩ (by omega)).trans HF.out.y)
        have hzr : w.heap.size + 1 < wr.heap.size := by omega
        clear hown3 Hown
        go_wp2
        have hlt8 := Hs8.out.blt
        have hlt1 := HF.out.s.blt
        have hg1 := HF.out.g
        refine bodyPost_ret (v := .agg #[.int .i64 t.start, .slice A8 t.reads.length c8, .slice B1 t.writes.length m1]) (by simp [results, Try.results137, go_sem, gh0, gh1, gh2]) rfl ⟨A8, c8, B1, m1, rfl, ⟨hc8, hc1, ?_, ?_, ?_⟩, ?_⟩
        · refine Hs8.out.keep wrR_stays (T := From W0.heap.size) ?_ (fun b _ h => h) (fun b hb => (hlt8 b (by rw [← own_blk A8]; exact hb)).1) (fun b _ h => ⟨by simp only [From] at *; omega, fun h7 => by have := hlt1 b h7; simp only [From] at h; omega⟩) (by omega)
          exact ((((Same.refl _ _).setCell (fun h => by simp only [From] at h; omega) _).setCell (fun h => by simp only [From] at h; omega) _).setCell (fun h => by simp only [From] at h; omega) _)
        · refine (HF.out.s.keep wrR_stays (T := fun b => b < W0.heap.size ∧ b ≠ G) (S2 := fun b => w.heap.size + 2 ≤ b ∧ b < W0.heap.size) (base' := w.heap.size) Hsm.out (fun b hb h => ⟨hb, h.2⟩) (fun b hb => ⟨(hlt1 b (by rw [← own_blk B1]; exact hb)).2, fun e => hg1 (by rw [own_blk] at hb; rw [hb, e])⟩) (fun b hb h => ⟨h.1, hb⟩) (by omega)).keep wrR_stays (T := From (w.heap.size + 2)) ?_ (fun b _ h => h.1) (fun b hb => (hlt1 b (by rw [← own_blk B1]; exact hb)).1) (fun b _ h => ⟨by simp only [From]; omega, fun h8 => by have := hlt8 b h8; omega⟩) (Nat.le_refl _)
          exact ((((Same.refl _ _).setCell (fun h => by simp only [From] at h; omega) _).setCell (fun h => by simp only [From] at h; omega) _).setCell (fun h => by simp only [From] at h; omega) _)
        · intro b h8 h1
          have := hlt8 b h8
          have := hlt1 b h1
          omega
        · exact (((Hbw.out.setCell (by simp only []; omega) _).setCell (by simp only []; omega) _).setCell (by simp only []; omega) _)
theorem txnOwn_ok (w : World) (A B : Option Addr) (t : Tx) (n m : Nat) (ha : Ws All w A t.reads) (hb : Ws All w B t.writes) (hn : t.reads.length * 80 ≤ 140737488355328) (hm : t.writes.length * 80 ≤ 140737488355328) :
    Calls Try.prog 137 #[.agg #[.int .i64 t.start, .slice A t.reads.length n, .slice B t.writes.length m]] w (RetTx w t) :=
  (txnOwn_own w A B t n m ha hb hn hm).mono fun _ _ h => h.bare
end Go.Proofs.Ythhcdibimnifaaa
