/- TapeG: Walk: TapeRecovered. The conditions of each are in its words. -/
import Derived.Test.YteacjkihjeiafaaDoorKTapeF
namespace Go.Proofs.YteacjkihjeiafaaDoor
open Go.RowKit
set_option linter.unusedVariables false
set_option linter.unusedSimpArgs false

theorem info_cmT : (Tryd.prog.info? 48).map (fun i => (i.zero, i.size, i.bytes)) = some (some (.agg #[.int .i64 0, .slice none 0 0]), 2, 32) := by kernel_rfl
/-- The call returns commits in a row of its own, a tape, a number. -/
def RetRec (w : World) (r : (List Cm × Tp) × Int) (e : Ending) (w' : World) : Prop :=
  ∃ v B d, e = .returned (.tuple #[v, .agg #[.slice B r.1.2.1.length d, .int .i64 r.1.2.2], .int .i64 r.2]) ∧ r.1.2.1.length ≤ d ∧ Own 2 CmR (From w.heap.size) w' w.heap.size 48 v r.1.1 ∧ Bs (fun b => From w.heap.size b ∧ v.ownBlock ≠ some b) w' B r.1.2.1 ∧ Below w.heap.size w w'
/-- How far recovery has come: so many commits, up to this place. -/
def recAt (d : List UInt8) (done : List Cm) (p : Nat) : Prop :=
  p ≤ d.length ∧ 6 * done.length ≤ p ∧ recF d.length d 1 = (done ++ (recF (d.length - done.length) (d.drop p) (done.length + 1)).1, p + (recF (d.length - done.length) (d.drop p) (done.length + 1)).2)
theorem recAt_zero (d : List UInt8) : recAt d [] 0 := ⟨Nat.zero_le _, Nat.zero_le _, by simp⟩
theorem recAt_end {d : List UInt8} {done : List Cm} {p : Nat} (h : recAt d done p) (he : ∀ k, recF k (d.drop p) (done.length + 1) = ([], 0)) : recF d.length d 1 = (done, p) := by
  rw [h.2.2, he]
  simp
theorem recAt_next {d : List UInt8} {done : List Cm} {p n : Nat} {c : Cm} (h : recAt d done p) (hf : frameF (d.drop p) = some (c, n)) (hc : c.1 = ((done.length + 1 : Nat) : Int)) : recAt d (done ++ [c]) (p + n) ∧ p + n ≤ d.length ∧ 6 ≤ n ∧ n ≤ 4004 := by
  obtain ⟨h1, h2, h3⟩ := h
  obtain ⟨f1, f2, f3⟩ := frameF_len hf
  rw [List.length_drop] at f1
  refine ⟨⟨by omega, by simp; omega, ?_⟩, by omega, f2, f3⟩
  obtain ⟨k, hk⟩ : ∃ k, d.length - done.length = k + 1 := ⟨d.length - done.length - 1, by omega⟩
  rw [h3, hk, recF_more hf hc, List.length_append, List.length_singleton, show d.length - (done.length + 1) = k by omega, List.drop_drop]
  simp [Nat.add_assoc]
theorem frE_none (p : Nat) : frE none p = ((0, []), -1) := rfl
theorem frE_some (c : Cm) (n p : Nat) : frE (some (c, n)) p = (c, (p : Int) + n) := rfl
theorem dec_few (b : List UInt8) : (decS b).1.2.length * 80 ≤ 140737488355328 := by
  have h255 : countS b < 256 := rdByte_lt _
  unfold decS
  split
  · simp
  · split
    · simp
    · split
      · simp
      · split
        · simp
        · show (cmS b).2.length * 80 ≤ _
          unfold cmS
          rw [wrs_len]
          omega
theorem frame_few {d : List UInt8} {c : Cm} {n : Nat} (h : frameF d = some (c, n)) : c.2.length * 80 ≤ 140737488355328 := by
  match d, h with
  | [], h => simp [frameF] at h
  | [x], h => simp [frameF] at h
  | a :: b :: r, h =>
    simp only [frameF] at h
    split at h
    · cases h
    · split at h
      · cases h
      · split at h
        · cases h
        · simp only [Option.some.injEq, Prod.mk.injEq] at h
          obtain ⟨rfl, _⟩ := h
          exact dec_few _
theorem two_newR (w : World) (a b : Obj) : ((w.alloc a).alloc b).heap[w.heap.size]? = some a ∧ ((w.alloc a).alloc b).heap[w.heap.size + 1]? = some b ∧ ((w.alloc a).alloc b).heap.size = w.heap.size + 2 ∧ Below w.heap.size w ((w.alloc a).alloc b) := by
  refine ⟨?_, ?_, by simp, ((Below.refl _ _).alloc (Nat.le_refl _) _).alloc (by simp) _⟩
  · rw [alloc_oldT _ _ (by simp), alloc_newT]
  · have := alloc_newT (w.alloc a) b
    simpa using this
theorem bs_joinT {w : World} {A : Option Addr} {l : List UInt8} {c p : Nat} (h : Bs All w A l) (hp : p ≤ l.length) (hb : p ≤ big) :
    Calls Tryd.prog 55 #[.slice A p c, .slice none 0 0] w (fun e w' => ∃ B d, e = .returned (.slice B p d) ∧ p ≤ d ∧ Bs (From w.heap.size) w' B (l.take p) ∧ Below w.heap.size w w') := by
  have h1 := joinedNil_cap w A (l.take p) c (bs_topT h p) (by rw [List.length_take]; omega)
  rw [show (l.take p).length = p by rw [List.length_take]; omega] at h1
  refine h1.mono ?_
  rintro e w' ⟨B, d, rfl, hd, hs, hb⟩
  exact ⟨B, d, by rw [show (l.take p).length = p by rw [List.length_take]; omega], by rw [List.length_take] at hd; omega, hs, hb⟩
/-- A row of the call's own is so still, where nothing of it has turned; said of more blocks. -/
theorem Own.keepT {α : Type} {size : Nat} {R : (Nat → Prop) → World → List Value → α → Prop} {S T S2 : Nat → Prop} {w w' : World} {base base' : Nat} {e : TypeId} {v : Value} {l : List α} (hR : Stays R) (h : Own size R S w base e v l) (hb : Same T w w') (hST : ∀ b, b < w.heap.size → S b → T b) (hv : ∀ b, v.ownBlock = some b → T b) (hS2 : ∀ b, b < w.heap.size → S b → S2 b) (hbase : base' ≤ base) : Own size R S2 w' base' e v l := by
  obtain ⟨xs, h1, h2⟩ := h
  refine ⟨xs, ⟨h1.1, ?_⟩, fun i hi => ?_⟩
  · rcases h1.2 with hn | ⟨g, cap, cur, hv', hb', hh, rest⟩
    · exact .inl hn
    · refine .inr ⟨g, cap, cur, hv', Nat.le_trans hbase hb', ?_, rest⟩
      rw [hb.block g (hv g (by rw [hv']; rfl)) (Array.getElem?_eq_some_iff.1 hh).1]
      exact hh
  · have h3 := hR.less _ (fun b => (S2 b ∧ v.ownBlock ≠ some b) ∧ T b) w _ _ (fun b hb2 hs => ⟨⟨hS2 b hb2 hs.1, hs.2⟩, hST b hb2 hs.1⟩) (h2 i hi)
    have h4 := hR.same _ w w' _ _ ⟨hb.size, fun k hk hk2 => hb.block k hk.2 hk2⟩ h3
    exact hR.less _ _ _ _ _ (fun b _ hs => hs.1) h4
theorem Own.lowT {α : Type} {size : Nat} {R : (Nat → Prop) → World → List Value → α → Prop} {S : Nat → Prop} {w : World} {base : Nat} {e : TypeId} {v : Value} {l : List α} (h : Own size R S w base e v l) : ∀ b, v.ownBlock = some b → base ≤ b ∧ b < w.heap.size := by
  obtain ⟨xs, h1, _⟩ := h
  exact fun b hb => h1.lt b hb
/-- The end of recovery: commits in a row of the call's own, a tape's data behind them. -/
theorem rec_end {w w2 w4 : World} {base G : Nat} {v : Value} {done : List Cm} {data : List UInt8} {n : Int} {B : Option Addr} {d : Nat} {r : (List Cm × Tp) × Int} {a b : Value}
    (hr : r = ((done, (data, n)), 0)) (hd : data.length ≤ d) (hG : w.heap.size ≤ G) (hGb : G < base) (hown : Own 2 CmR (From base) w2 base 48 v done) (h2 : Below w.heap.size w w2) (h4 : Below w2.heap.size w2 w4) (hB : Bs (From w2.heap.size) w4 B data) (hb2 : base ≤ w2.heap.size) :
    RetRec w r (.returned (.tuple #[v, .agg #[.slice B data.length d, .int .i64 n], .int .i64 0])) ((w4.setCell ⟨G, 0, none⟩ a).setCell ⟨G, 1, none⟩ b) := by
  subst hr
  refine ⟨v, B, d, rfl, hd, ?_, ?_, ?_⟩
  · refine hown.keepT cmR_stays (T := From base) ?_ (fun b _ h => h) (fun b hb => (hown.lowT b hb).1) (fun b _ h => ?_) (by omega)
    · exact ((Same.of_below h4).setCell (p := ⟨G, 0, none⟩) (fun h => absurd h (by simp only [From]; omega)) _).setCell (p := ⟨G, 1, none⟩) (fun h => absurd h (by simp only [From]; omega)) _
    · have h' : base ≤ b := h
      exact (show w.heap.size ≤ b by omega)
  · refine SL.bless (S := From w2.heap.size) ?_ (fun b _ h => ⟨?_, fun he => ?_⟩)
    · exact hB.bsame (((Same.refl _ _).setCell (p := ⟨G, 0, none⟩) (fun h => absurd h (by simp only [From]; omega)) _).setCell (p := ⟨G, 1, none⟩) (fun h => absurd h (by simp only [From]; omega)) _)
    · have h' : w2.heap.size ≤ b := h
      exact (show w.heap.size ≤ b by omega)
    · have h' : w2.heap.size ≤ b := h
      have := (hown.lowT b he).2
      omega
  · exact ((h2.next h4 h2.size).setCell (p := ⟨G, 0, none⟩) hG _).setCell (p := ⟨G, 1, none⟩) hG _
set_option maxRecDepth 100000 in
set_option maxHeartbeats 2000000 in
theorem tapeRecovered_ok (w : World) (A : Option Addr) (t : Tp) (c : Nat) (ha : Bs All w A t.1) (hc : t.1.length ≤ c) :
    Calls Tryd.prog 24 #[.agg #[.slice A t.1.length c, .int .i64 t.2]] w (RetRec w (recS t)) := by
  obtain ⟨i0, hi0, hz0, hz1, hz2⟩ := info_parts info_cmT
  have Ha := Lib.hid ha
  clear ha
  rcases Bool.eq_false_or_eq_true (mayS t) with hm | hm
  · obtain ⟨m0, m1, m2⟩ := (mayS_iff t).1 hm
    have Hv := Lib.hid (show recS t = (((recF t.1.length t.1 1).1, (t.1.take (recF t.1.length t.1 1).2, min t.2 ((recF t.1.length t.1 1).2 : Int))), 0) by unfold recS; rw [if_neg (by simp [hm])])
    have Hm := Lib.hid hm
    clear hm
    go_enter Tryd.func24, Tryd.ntmps24
    go_wp2_with (go_at_call 53; refine (tapeMay_ok _ A t c).mono ?_; rintro e w1 ⟨rfl, hb1⟩; have hm := Hm.out)
    obtain ⟨q1, q2, q3, q4⟩ := two_newR w (.cells #[.slice A t.1.length c, .int .i64 t.2] 45) (.cells #[.slice none 0 0, .int .i64 0] 45)
    have k1 := (hb1.block w.heap.size (by omega)).trans q1
    have k2 := (hb1.block (w.heap.size + 1) (by omega)).trans q2
    have hz := hb1.size
    have hbw := q4.next hb1 q4.size
    have Hb0 := Lib.hid hbw
    have K1 := Lib.hid k1
    have K2 := Lib.hid k2
    have hz4 : w.heap.size + 2 ≤ w1.heap.size := by omega
    clear hm q1 q2 q3 q4 k1 k2 hb1 hbw hz
    go_loopw [5, 6, 7] (fun v i j wr => ∃ (done : List Cm) (p : Nat), i = .int .i64 p ∧ j = .int .i64 ((done.length : Int) + 1) ∧ recAt t.1 done p ∧ Own 2 CmR (From w1.heap.size) wr w1.heap.size 48 v done ∧ wr.heap[w.heap.size]? = some (.cells #[.slice A t.1.length c, .int .i64 t.2] 45 (0, 0)) ∧ wr.heap[w.heap.size + 1]? = some (.cells #[.slice none 0 0, .int .i64 0] 45 (0, 0)) ∧ Below w.heap.size w wr ∧ w1.heap.size ≤ wr.heap.size) (fun _ i _ _ => t.1.length - (intOf i).toNat)
    case atStart => exact ⟨[], 0, rfl, by simp, recAt_zero _, Own.nil _ _ _, K1.out, K2.out, Hb0.out, Nat.le_refl _⟩
    case round =>
      obtain ⟨done, p, rfl, rfl, hat, hown, k1, k2, hbel, hsz⟩ := hrel
      have Hat := Lib.hid hat
      have Hown := Lib.hid hown
      have Hbel := Lib.hid hbel
      have K1' := Lib.hid k1
      have K2' := Lib.hid k2
      have hpl := hat.1
      have h6 := hat.2.1
      obtain ⟨t0, t1, _, _⟩ := box2 k1
      have hlt0 := (Array.getElem?_eq_some_iff.1 k1).1
      have hlt1 := (Array.getElem?_eq_some_iff.1 k2).1
      clear hat hown hbel
      obtain ⟨o, ho⟩ : ∃ o, o = frameF (t.1.drop p) := ⟨_, rfl⟩
      have Ho := Lib.hid ho
      clear ho
      match o, Ho with
      | none, Ho =>
        have Hend := Lib.hid (recAt_end Hat.out (fun k => recF_none Ho.out.symm))
        by_cases hps : (p : Int) < t.2
        · have Hr := Lib.hid (show recS t = ((done, (t.1.take p, (p : Int))), 0) by rw [Hv.out, Hend.out, show min t.2 (p : Int) = (p : Int) by omega])
          go_wp2_with (first | (go_at_call 59; (with_reducible refine (frameAt_ok _ A t.1 c p ?ha hc (by omega) hpl).mono ?_); (case ha => exact Ha.out.bbelow Hbel.out); rw [← Ho.out, frE_none]; rintro e w2 ⟨A2, n2, rfl, hs2, hb2⟩; obtain ⟨t0, t1, _, _⟩ := box2 ((hb2.block _ hlt0).trans K1'.out); have hz2' := hb2.size; have hl2 : w.heap.size < w2.heap.size := (by omega); have hl3 : w.heap.size + 1 < w2.heap.size := (by omega); have Hb2 := Lib.hid (Hbel.out.next hb2 Hbel.out.size); have K22 := Lib.hid ((hb2.block _ hlt1).trans K2'.out); have Hw2 := Lib.hid (Own.below cmR_stays Hown.out hb2)) | (go_at_call 55; (with_reducible refine (bs_joinT (l := t.1) ?ha hpl (by unfold big; omega)).mono ?_); (case ha => exact (Ha.out.bbelow Hb2.out).bsame ((Same.refl _ _).alloc _)); rintro e w4 ⟨B, d, rfl, hd, hsB, hb4⟩; obtain ⟨g0, g1, f0, f1⟩ := box2 (a := .slice none 0 0) (b := .int .i64 0) (t := 45) ((hb4.block _ (by simp; omega)).trans ((alloc_oldT w2 _ hl3).trans K22.out)); have hl4 : w.heap.size + 1 < w4.heap.size := (by have h9 := hb4.size; simp at h9; omega)))
          refine bodyPost_ret (v := .tuple #[u5, .agg #[.slice B p d, .int .i64 ((p : Int))], .int .i64 0]) (by simp [results, Tryd.results24, go_sem, g0, g1, f0, f1, hl4]) rfl ?_
          have hpt : (t.1.take p).length = p := by rw [List.length_take]; omega
          have h := rec_end (w := w) (w2 := w2) (w4 := w4) (base := w1.heap.size) (G := w.heap.size + 1) (v := u5) (done := done) (data := t.1.take p) (n := (p : Int)) (B := B) (d := d) (a := .slice B p d) (b := .int .i64 ((p : Int))) Hr.out (by rw [hpt]; exact hd) (by omega) (by omega) Hw2.out Hb2.out (((Below.refl w2.heap.size w2).alloc (Nat.le_refl _) _).trans (hb4.mono (by simp))) (SL.blo hsB (by simp)) (by omega)
          rw [hpt] at h
          exact h
        · have Hr := Lib.hid (show recS t = ((done, (t.1.take p, t.2)), 0) by rw [Hv.out, Hend.out, show min t.2 (p : Int) = t.2 by omega])
          go_wp2_with (first | (go_at_call 59; (with_reducible refine (frameAt_ok _ A t.1 c p ?ha hc (by omega) hpl).mono ?_); (case ha => exact Ha.out.bbelow Hbel.out); rw [← Ho.out, frE_none]; rintro e w2 ⟨A2, n2, rfl, hs2, hb2⟩; obtain ⟨t0, t1, _, _⟩ := box2 ((hb2.block _ hlt0).trans K1'.out); have hz2' := hb2.size; have hl2 : w.heap.size < w2.heap.size := (by omega); have hl3 : w.heap.size + 1 < w2.heap.size := (by omega); have Hb2 := Lib.hid (Hbel.out.next hb2 Hbel.out.size); have K22 := Lib.hid ((hb2.block _ hlt1).trans K2'.out); have Hw2 := Lib.hid (Own.below cmR_stays Hown.out hb2)) | (go_at_call 55; (with_reducible refine (bs_joinT (l := t.1) ?ha hpl (by unfold big; omega)).mono ?_); (case ha => exact (Ha.out.bbelow Hb2.out).bsame ((Same.refl _ _).alloc _)); rintro e w4 ⟨B, d, rfl, hd, hsB, hb4⟩; obtain ⟨g0, g1, f0, f1⟩ := box2 (a := .slice none 0 0) (b := .int .i64 0) (t := 45) ((hb4.block _ (by simp; omega)).trans ((alloc_oldT w2 _ hl3).trans K22.out)); have hl4 : w.heap.size + 1 < w4.heap.size := (by have h9 := hb4.size; simp at h9; omega)))
          refine bodyPost_ret (v := .tuple #[u5, .agg #[.slice B p d, .int .i64 (t.2)], .int .i64 0]) (by simp [results, Tryd.results24, go_sem, g0, g1, f0, f1, hl4]) rfl ?_
          have hpt : (t.1.take p).length = p := by rw [List.length_take]; omega
          have h := rec_end (w := w) (w2 := w2) (w4 := w4) (base := w1.heap.size) (G := w.heap.size + 1) (v := u5) (done := done) (data := t.1.take p) (n := t.2) (B := B) (d := d) (a := .slice B p d) (b := .int .i64 (t.2)) Hr.out (by rw [hpt]; exact hd) (by omega) (by omega) Hw2.out Hb2.out (((Below.refl w2.heap.size w2).alloc (Nat.le_refl _) _).trans (hb4.mono (by simp))) (SL.blo hsB (by simp)) (by omega)
          rw [hpt] at h
          exact h
      | some (x, n), Ho =>
        by_cases hx : x.1 = (done.length : Int) + 1
        · have hx' : x.1 = ((done.length + 1 : Nat) : Int) := by omega
          have Hnx := Lib.hid (recAt_next Hat.out Ho.out.symm hx')
          have hfew := frame_few Ho.out.symm
          have b1 : (x.1 != (done.length : Int) + 1) = false := by simp [hx]
          have hn1 := Hnx.out.2.1
          have hn2 := Hnx.out.2.2.1
          have b2 : decide ((p : Int) + (n : Int) < 0) = false := by simp; omega
          clear hx hx'
          go_wp2_with (first
            | (go_at_call 59; (with_reducible refine (frameAt_ok _ A t.1 c p ?ha hc (by omega) hpl).mono ?_); (case ha => exact Ha.out.bbelow Hbel.out); rw [← Ho.out, frE_some]; rintro e w2 ⟨A2, n2, rfl, hs2, hb2⟩; obtain ⟨t0, t1, _, _⟩ := box2 ((hb2.block _ hlt0).trans K1'.out); have hz2' := hb2.size; have hl2 : w.heap.size < w2.heap.size := (by omega); have hl3 : w.heap.size + 1 < w2.heap.size := (by omega); have Hb2 := Lib.hid (Hbel.out.next hb2 Hbel.out.size); have K22 := Lib.hid ((hb2.block _ hlt1).trans K2'.out); have Hw2 := Lib.hid (Own.below cmR_stays Hown.out hb2); have Hs2 := Lib.hid hs2; clear hs2)
            | (at_builtin; refine wpl_snoc cmR_stays (S := From w1.heap.size) _ rfl _ _ _ rfl w1.heap.size 48 i0 _ 2 32 Tryd.underlying55 hi0 hz0 hz1 hz2 rfl (by decide) _ done rfl ?hown _ _ [.int .i64 x.1, .slice A2 x.2.length n2] rfl rfl (new_src _ _ [.int .i64 x.1, .slice A2 x.2.length n2] _ (by simp)) (by simp [Value.oneCell']) ?hm ?hby ?hba x ?hd ?_; (case hown => (refine Own.below cmR_stays Hw2.out ?_; repeat' (first | exact Below.refl _ _ | assumption | refine Below.drew ?_ | refine below_drewN ?_ _ | refine Below.setCell ?_ (by first | (simp; done) | omega | (simp; omega)) _ | refine Below.alloc ?_ (by first | exact Nat.le_refl _ | omega | (simp; done) | (simp; omega)) _))); (case hm => (simp only [maxLen]; omega)); (case hby => omega); (case hba => (simp; omega)); (case hd => (refine cm_fresh (n := wr.heap.size) Hs2.out hfew ?_ hsz (Hown.out.apart _ (Nat.le_refl _)); repeat' (first | exact Same.refl _ _ | assumption | refine Same.drew ?_ | refine Same.drewN ?_ _ | refine Same.alloc ?_ _ | refine Same.setCell ?_ (fun hq => by simp only [From] at hq; first | omega | (simp at hq; done) | (simp at hq; omega)) _))); intro v1 w3 hown3 hbw3))
          have hbb := ((Hb2.out.alloc Hb2.out.size (.cells #[.int .i64 x.1, .slice A2 x.2.length n2] 48)).alloc (by have := Hb2.out.size; simp; omega) (.cells #[.int .i64 x.1, .slice A2 x.2.length n2] 48)).trans (hbw3.mono (by omega))
          have e1 := (hbw3.block w.heap.size (by omega)).trans ((alloc_oldT _ _ (by simp; omega)).trans ((alloc_oldT _ _ (by omega)).trans ((hb2.block _ hlt0).trans K1'.out)))
          have e2 := (hbw3.block (w.heap.size + 1) (by omega)).trans ((alloc_oldT _ _ (by simp; omega)).trans ((alloc_oldT _ _ (by omega)).trans K22.out))
          have hz3 := hbw3.size
          simp at hz3
          exact ⟨⟨done ++ [x], p + n, by simp, by simp, Hnx.out.1, hown3, e1, e2, hbb, by omega⟩, by simp [intOf]; omega⟩
        · have Hend := Lib.hid (recAt_end Hat.out (fun k => recF_turn Ho.out.symm (by rw [Int.natCast_add]; exact hx)))
          have b1 : (x.1 != (done.length : Int) + 1) = true := by simpa using hx
          clear hx
          by_cases hps : (p : Int) < t.2
          · have Hr := Lib.hid (show recS t = ((done, (t.1.take p, (p : Int))), 0) by rw [Hv.out, Hend.out, show min t.2 (p : Int) = (p : Int) by omega])
            go_wp2_with (first | (go_at_call 59; (with_reducible refine (frameAt_ok _ A t.1 c p ?ha hc (by omega) hpl).mono ?_); (case ha => exact Ha.out.bbelow Hbel.out); rw [← Ho.out, frE_some]; rintro e w2 ⟨A2, n2, rfl, hs2, hb2⟩; obtain ⟨t0, t1, _, _⟩ := box2 ((hb2.block _ hlt0).trans K1'.out); have hz2' := hb2.size; have hl2 : w.heap.size < w2.heap.size := (by omega); have hl3 : w.heap.size + 1 < w2.heap.size := (by omega); have Hb2 := Lib.hid (Hbel.out.next hb2 Hbel.out.size); have K22 := Lib.hid ((hb2.block _ hlt1).trans K2'.out); have Hw2 := Lib.hid (Own.below cmR_stays Hown.out hb2)) | (go_at_call 55; (with_reducible refine (bs_joinT (l := t.1) ?ha hpl (by unfold big; omega)).mono ?_); (case ha => exact (Ha.out.bbelow Hb2.out).bsame ((Same.refl _ _).alloc _)); rintro e w4 ⟨B, d, rfl, hd, hsB, hb4⟩; obtain ⟨g0, g1, f0, f1⟩ := box2 (a := .slice none 0 0) (b := .int .i64 0) (t := 45) ((hb4.block _ (by simp; omega)).trans ((alloc_oldT w2 _ hl3).trans K22.out)); have hl4 : w.heap.size + 1 < w4.heap.size := (by have h9 := hb4.size; simp at h9; omega)))
            refine bodyPost_ret (v := .tuple #[u5, .agg #[.slice B p d, .int .i64 ((p : Int))], .int .i64 0]) (by simp [results, Tryd.results24, go_sem, g0, g1, f0, f1, hl4]) rfl ?_
            have hpt : (t.1.take p).length = p := by rw [List.length_take]; omega
            have h := rec_end (w := w) (w2 := w2) (w4 := w4) (base := w1.heap.size) (G := w.heap.size + 1) (v := u5) (done := done) (data := t.1.take p) (n := (p : Int)) (B := B) (d := d) (a := .slice B p d) (b := .int .i64 ((p : Int))) Hr.out (by rw [hpt]; exact hd) (by omega) (by omega) Hw2.out Hb2.out (((Below.refl w2.heap.size w2).alloc (Nat.le_refl _) _).trans (hb4.mono (by simp))) (SL.blo hsB (by simp)) (by omega)
            rw [hpt] at h
            exact h
          · have Hr := Lib.hid (show recS t = ((done, (t.1.take p, t.2)), 0) by rw [Hv.out, Hend.out, show min t.2 (p : Int) = t.2 by omega])
            go_wp2_with (first | (go_at_call 59; (with_reducible refine (frameAt_ok _ A t.1 c p ?ha hc (by omega) hpl).mono ?_); (case ha => exact Ha.out.bbelow Hbel.out); rw [← Ho.out, frE_some]; rintro e w2 ⟨A2, n2, rfl, hs2, hb2⟩; obtain ⟨t0, t1, _, _⟩ := box2 ((hb2.block _ hlt0).trans K1'.out); have hz2' := hb2.size; have hl2 : w.heap.size < w2.heap.size := (by omega); have hl3 : w.heap.size + 1 < w2.heap.size := (by omega); have Hb2 := Lib.hid (Hbel.out.next hb2 Hbel.out.size); have K22 := Lib.hid ((hb2.block _ hlt1).trans K2'.out); have Hw2 := Lib.hid (Own.below cmR_stays Hown.out hb2)) | (go_at_call 55; (with_reducible refine (bs_joinT (l := t.1) ?ha hpl (by unfold big; omega)).mono ?_); (case ha => exact (Ha.out.bbelow Hb2.out).bsame ((Same.refl _ _).alloc _)); rintro e w4 ⟨B, d, rfl, hd, hsB, hb4⟩; obtain ⟨g0, g1, f0, f1⟩ := box2 (a := .slice none 0 0) (b := .int .i64 0) (t := 45) ((hb4.block _ (by simp; omega)).trans ((alloc_oldT w2 _ hl3).trans K22.out)); have hl4 : w.heap.size + 1 < w4.heap.size := (by have h9 := hb4.size; simp at h9; omega)))
            refine bodyPost_ret (v := .tuple #[u5, .agg #[.slice B p d, .int .i64 (t.2)], .int .i64 0]) (by simp [results, Tryd.results24, go_sem, g0, g1, f0, f1, hl4]) rfl ?_
            have hpt : (t.1.take p).length = p := by rw [List.length_take]; omega
            have h := rec_end (w := w) (w2 := w2) (w4 := w4) (base := w1.heap.size) (G := w.heap.size + 1) (v := u5) (done := done) (data := t.1.take p) (n := t.2) (B := B) (d := d) (a := .slice B p d) (b := .int .i64 (t.2)) Hr.out (by rw [hpt]; exact hd) (by omega) (by omega) Hw2.out Hb2.out (((Below.refl w2.heap.size w2).alloc (Nat.le_refl _) _).trans (hb4.mono (by simp))) (SL.blo hsB (by simp)) (by omega)
            rw [hpt] at h
            exact h
  · have Hv := Lib.hid (show recS t = (([], ([], 0)), 6) by unfold recS; rw [if_pos hm])
    have Hm := Lib.hid hm
    clear hm
    go_enter Tryd.func24, Tryd.ntmps24
    go_wp2_with (go_at_call 53; refine (tapeMay_ok _ A t c).mono ?_; rintro e w1 ⟨rfl, hb1⟩; have g0 : w1.cell? ⟨w.heap.size + 1, 0, none⟩ = some (.slice none 0 0) := (hb1.cell (by first | (simp; done) | omega | (simp; omega))).trans (by simp); have g1 : w1.cell? ⟨w.heap.size + 1, 1, none⟩ = some (.int .i64 0) := (hb1.cell (by first | (simp; done) | omega | (simp; omega))).trans (by simp); have f0 : w1.frozen? ⟨w.heap.size + 1, 0, none⟩ = false := (hb1.frozen (by first | (simp; done) | omega | (simp; omega))).trans (by simp); have f1 : w1.frozen? ⟨w.heap.size + 1, 1, none⟩ = false := (hb1.frozen (by first | (simp; done) | omega | (simp; omega))).trans (by simp); have hlt : w.heap.size + 1 < w1.heap.size := (by have := hb1.size; simp at this; omega); have hm := Hm.out)
    refine bodyPost_ret (v := .tuple #[.slice none 0 0, .agg #[.slice none 0 0, .int .i64 0], .int .i64 6]) (by simp [results, Tryd.results24, go_sem, g0, g1, f0, f1, hlt]) rfl ?_
    rw [Hv.out]
    refine ⟨.slice none 0 0, none, 0, rfl, Nat.le_refl _, Own.nil _ _ _, SL.nil, ?_⟩
    refine Below.setCell (Below.setCell (Below.next ?_ hb1 (by first | (simp; done) | omega | (simp; omega))) (by first | (simp; done) | omega | (simp; omega)) _) (by first | (simp; done) | omega | (simp; omega)) _
    repeat' (first | exact Below.refl _ _ | assumption | refine Below.drew ?_ | refine below_drewN ?_ _ | refine Below.alloc ?_ (by first | exact Nat.le_refl _ | omega | (simp; done) | (simp; omega)) _)
end Go.Proofs.YteacjkihjeiafaaDoor
