/- TapeH: Walk: tape.Recover. The conditions of each are in its words. -/
import Derived.Test.YteacjkihjeiafaaDoorKTapeG
import Derived.Test.YteacjkihjeiafaaDoorKSlEq
import Derived.Test.YteacjkihjeiafaaDoorKTapeA
namespace Go.Proofs.YteacjkihjeiafaaDoor
open Go.RowKit
set_option linter.unusedVariables false
set_option linter.unusedSimpArgs false

theorem frame_short {d : List UInt8} (h : d.length < 2) : frameF d = none := frame_none (by omega)
theorem frame_sum {a b : UInt8} {r : List UInt8} (h : (digS (a :: b :: r.take (256 * a.toNat + b.toNat))).take 4 ≠ (r.drop (256 * a.toNat + b.toNat)).take 4) : frameF (a :: b :: r) = none := by
  unfold frameF
  dsimp only
  by_cases h1 : 4000 < 256 * a.toNat + b.toNat + 2 ∨ r.length < 256 * a.toNat + b.toNat + 4
  · exact if_pos h1
  · rw [if_neg h1, if_pos h]
theorem frame_dec {a b : UInt8} {r : List UInt8} (h : (decS (r.take (256 * a.toNat + b.toNat))).2 ≠ 0) : frameF (a :: b :: r) = none := by
  unfold frameF
  dsimp only
  by_cases h1 : 4000 < 256 * a.toNat + b.toNat + 2 ∨ r.length < 256 * a.toNat + b.toNat + 4
  · exact if_pos h1
  · rw [if_neg h1]
    by_cases h2 : (digS (a :: b :: r.take (256 * a.toNat + b.toNat))).take 4 ≠ (r.drop (256 * a.toNat + b.toNat)).take 4
    · exact if_pos h2
    · rw [if_neg h2]
      exact if_pos h
theorem frame_fits {a b : UInt8} {r : List UInt8} (h1 : ¬ (4000 < 256 * a.toNat + b.toNat + 2 ∨ r.length < 256 * a.toNat + b.toNat + 4)) (h2 : (digS (a :: b :: r.take (256 * a.toNat + b.toNat))).take 4 = (r.drop (256 * a.toNat + b.toNat)).take 4) (h3 : (decS (r.take (256 * a.toNat + b.toNat))).2 = 0) :
    frameF (a :: b :: r) = some ((decS (r.take (256 * a.toNat + b.toNat))).1, 256 * a.toNat + b.toNat + 6) := by
  unfold frameF
  dsimp only
  rw [if_neg h1, if_neg (fun h : _ ≠ _ => h h2), if_neg (fun h : _ ≠ (0 : Int) => h h3)]
/-- The end of tape.Recover. -/
theorem rec_fin {w w0 wr WF : World} {R p : Nat} {v : Value} {done : List Cm} {data : List UInt8} {n : Int} {A : Option Addr} {r : (List Cm × Tp) × Int}
    (hr : r = ((done, (data.take p, n)), 0)) (hp : p ≤ data.length) (hR2 : R < w.heap.size + 2) (hz : w.heap.size + 2 ≤ w0.heap.size) (hA : Bs (From (w.heap.size + 2)) w0 A data) (hb : Below w0.heap.size w0 wr) (hown : Own 2 CmR (From w0.heap.size) wr w0.heap.size 48 v done)
    (hF : Same (fun b => b ≠ R) wr WF) (hB : Below w.heap.size w WF) :
    RetRec w r (.returned (.tuple #[v, .agg #[.slice A p p, .int .i64 n], .int .i64 0])) WF := by
  subst hr
  have hl : (data.take p).length = p := by rw [List.length_take]; omega
  refine ⟨v, A, p, by rw [hl], by rw [hl]; exact Nat.le_refl _, ?_, ?_, hB⟩
  · refine hown.keepT cmR_stays (T := fun b => b ≠ R) hF (fun b _ h => ?_) (fun b hb => ?_) (fun b _ h => ?_) (by omega)
    · have h' : w0.heap.size ≤ b := h
      show b ≠ R
      omega
    · have := (hown.lowT b hb).1
      show b ≠ R
      omega
    · have h' : w0.heap.size ≤ b := h
      exact (show w.heap.size ≤ b by omega)
  · have h1 : Bs (fun b => From (w.heap.size + 2) b ∧ v.ownBlock ≠ some b) w0 A (data.take p) := (bs_topT hA p).bless fun b hb h => ⟨h, fun he => by have := (hown.lowT b he).1; omega⟩
    have h2 : Bs (fun b => b ≠ R ∧ From w.heap.size b ∧ v.ownBlock ≠ some b) w0 A (data.take p) := h1.bless fun b _ h => ⟨by have h' : w.heap.size + 2 ≤ b := h.1; omega, by have h' : w.heap.size + 2 ≤ b := h.1; exact (show w.heap.size ≤ b by omega), h.2⟩
    have h3 := (h2.bsame (Same.of_below hb)).bsame (⟨hF.size, fun k hk hk' => hF.block k hk.1 hk'⟩ : Same (fun b => b ≠ R ∧ From w.heap.size b ∧ v.ownBlock ≠ some b) wr WF)
    exact h3.bless fun b _ h => h.2
theorem bs_at {S : Nat → Prop} {w : World} {g : Nat} {l : List UInt8} (h : Bs S w (some ⟨g, 0, none⟩) l) (i n : Nat) : Bs S w (some ⟨g, i, none⟩) ((l.drop i).take n) := by
  have h1 := bs_sub h i n
  rw [Option.map_some, add_at, Nat.zero_add] at h1
  exact h1
set_option maxRecDepth 100000 in
set_option maxHeartbeats 4000000 in
theorem tapeRecover_ok (w : World) (hT : TabsAt w) (A : Option Addr) (t : Tp) (c : Nat) (ha : Bs All w A t.1) :
    Calls Tryd.prog 23 #[.agg #[.slice A t.1.length c, .int .i64 t.2]] w (RetRec w (recS t)) := by
  obtain ⟨i0, hi0, hz0, hz1, hz2⟩ := info_parts info_cmT
  have Ha := Lib.hid ha
  have HT := Lib.hid hT
  clear ha hT
  rcases Bool.eq_false_or_eq_true (mayS t) with hm | hm
  · obtain ⟨m0, m1, m2⟩ := (mayS_iff t).1 hm
    have Hv := Lib.hid (show recS t = (((recF t.1.length t.1 1).1, (t.1.take (recF t.1.length t.1 1).2, min t.2 ((recF t.1.length t.1 1).2 : Int))), 0) by unfold recS; rw [if_neg (by simp [hm])])
    have Hm := Lib.hid hm
    clear hm
    go_enter Tryd.func23, Tryd.ntmps23
    go_wp2_with (go_at_call 49; (with_reducible refine (tapeOpen_own _ A t c ?ha Hm.out).mono ?_); (case ha => exact Ha.out.bbelow (((Below.refl _ _).alloc (Nat.le_refl _) _).alloc (by simp) _)); rintro e w1 ⟨A1, c1, rfl, hc1, ho1, hb1⟩)
    obtain ⟨q1, q2, q3, q4⟩ := two_newR w (.cells #[.slice A t.1.length c, .int .i64 t.2] 45) (.cells #[.slice none 0 0, .int .i64 0] 45)
    have k2 := (hb1.block (w.heap.size + 1) (by omega)).trans q2
    have hbw := q4.next hb1 q4.size
    have hT1 := HT.out.below hbw
    have hz := hb1.size
    obtain ⟨_, hbs1⟩ := SL.bof_own ho1
    have hbs : Bs (From (w.heap.size + 2)) w1 A1 t.1 := hbs1.blo (by simp)
    have hG : w.heap.size + 2 ≤ w1.heap.size := by omega
    have hcase := ho1.2
    clear q1 q2 q3 q4 hb1 hz ho1 hbs1
    rcases A1 with _ | ⟨g, off, sub⟩
    · have h0 : t.1.length = 0 := by
        cases ht : t.1 with
        | nil => rfl
        | cons b l => obtain ⟨_, _, h', _⟩ := hbs (by rw [ht]; simp); cases h'
      have hcc : c1 = 0 := by
        rcases hcase with ⟨hn, _⟩ | ⟨g', cap, cur, hv, _⟩
        · simp only [Value.slice.injEq] at hn
          exact hn.2.2
        · cases hv
      have hd0 : t.1 = [] := List.eq_nil_of_length_eq_zero h0
      have hr0 : recF t.1.length t.1 1 = ([], 0) := by rw [hd0]; rfl
      have ht2 : t.2 = 0 := by omega
      have Hr := Lib.hid (show recS t = (([], ([], 0)), 0) by rw [Hv.out, hr0, hd0, ht2]; rfl)
      subst hcc
      have k3 := (alloc_oldT w1 (.cells #[.slice none 0 0, .int .i64 0] 45) (by omega)).trans k2
      have k4 := heap_alloc_new w1 (.cells #[.slice none 0 0, .int .i64 0] 45)
      obtain ⟨x0, x1, _, _⟩ := box2 k4
      obtain ⟨g0, g1, f0, f1⟩ := box2 k3
      have hl1 : w.heap.size + 1 < (w1.alloc (.cells #[.slice none 0 0, .int .i64 0] 45)).heap.size := by simp; omega
      have hGl : w1.heap.size < (w1.alloc (.cells #[.slice none 0 0, .int .i64 0] 45)).heap.size := by simp
      have hbF := hbw.alloc hbw.size (.cells #[.slice none 0 0, .int .i64 0] 45)
      rw [h0, ht2]
      clear hcase hbs k2 k3 k4 hr0 hd0 h0 hc1 hT1 hbw Hv ht2
      generalize w1.alloc (.cells #[.slice none 0 0, .int .i64 0] 45) = w0 at *
      go_loopw [7, 8] (fun v i wr => v = .slice none 0 0 ∧ i = .int .i64 0 ∧ wr = w0) (fun _ _ _ => 0)
      case atStart => exact ⟨rfl, rfl, rfl⟩
      case round =>
        obtain ⟨rfl, rfl, rfl⟩ := hrel
        go_wp2
        go_region
        go_wp2
        refine bodyPost_ret (v := .tuple #[.slice none 0 0, .agg #[.slice none 0 0, .int .i64 0], .int .i64 0]) (by simp [results, Tryd.results23, go_sem, g0, g1, f0, f1, hl1]) rfl ?_
        rw [Hr.out]
        exact ⟨.slice none 0 0, none, 0, rfl, Nat.le_refl _, Own.nil _ _ _, SL.nil, ((hbF.setCell (p := ⟨w.heap.size + 1, 0, none⟩) (Nat.le_succ _) _).setCell (p := ⟨w.heap.size + 1, 1, none⟩) (Nat.le_succ _) _).drew⟩
    · have hoff : off = 0 ∧ sub = none := by
        rcases hcase with ⟨hn, _⟩ | ⟨g', cap, cur, hv, _⟩
        · cases hn
        · simp only [Value.slice.injEq, Option.some.injEq, Addr.mk.injEq] at hv
          exact ⟨hv.1.2.1, hv.1.2.2⟩
      obtain ⟨rfl, rfl⟩ := hoff
      clear hcase
      have hb0 : Below w1.heap.size w1 (w1.alloc (.cells #[.slice (some ⟨g, 0, none⟩) t.1.length c1, .int .i64 t.2] 45)) := (Below.refl _ _).alloc (Nat.le_refl _) _
      have HA0 := Lib.hid (hbs.bbelow hb0)
      have HT0 := Lib.hid (hT1.below hb0)
      have X0 := Lib.hid (heap_alloc_new w1 (.cells #[.slice (some ⟨g, 0, none⟩) t.1.length c1, .int .i64 t.2] 45))
      have R0 := Lib.hid ((alloc_oldT w1 (.cells #[.slice (some ⟨g, 0, none⟩) t.1.length c1, .int .i64 t.2] 45) (by omega)).trans k2)
      have B0 := Lib.hid (hbw.next hb0 hbw.size)
      have hG0 : w1.heap.size < (w1.alloc (.cells #[.slice (some ⟨g, 0, none⟩) t.1.length c1, .int .i64 t.2] 45)).heap.size := by simp
      clear k2 hbw hT1 hbs hb0
      generalize w1.alloc (.cells #[.slice (some ⟨g, 0, none⟩) t.1.length c1, .int .i64 t.2] 45) = w0 at *
      generalize w1.heap.size = G at *
      have hc1' : (t.1.length : Int) ≤ (c1 : Int) := by omega
      go_loopw [7, 8] (fun v i wr => ∃ (done : List Cm) (p : Nat), i = .int .i64 p ∧ recAt t.1 done p ∧ Own 2 CmR (From w0.heap.size) wr w0.heap.size 48 v done ∧ Below w0.heap.size w0 wr) (fun _ i _ => t.1.length - (intOf i).toNat)
      case atStart => exact ⟨[], 0, rfl, recAt_zero _, Own.nil _ _ _, Below.refl _ _⟩
      case round =>
        obtain ⟨done, p, rfl, hat, hown, hbel⟩ := hrel
        obtain ⟨VA, vc, rfl, _, _⟩ := hown.readc cmR_stays
        have Hat := Lib.hid hat
        have Hown := Lib.hid hown
        have Hbel := Lib.hid hbel
        have hpl := hat.1
        have h6 := hat.2.1
        obtain ⟨x0, x1, _, _⟩ := box2 ((hbel.block G hG0).trans X0.out)
        have hGl : G < wr.heap.size := by have := hbel.size; omega
        have r1 : (0 : Int) ≤ (p : Int) := by omega
        have r2 : (p : Int) ≤ (t.1.length : Int) := by omega
        have r3 : (p : Int) ≤ (c1 : Int) := by omega
        clear hat hown hbel
        by_cases h2 : t.1.length < p + 2
        · have Hend := Lib.hid (recAt_end Hat.out (fun k => recF_none (frame_short (by simp; omega))))
          have z1 : ((t.1.length - p : Nat) : Int) < 2 := by omega
          have k1' := (Hbel.out.block (w.heap.size + 1) (by omega)).trans R0.out
          obtain ⟨g0, g1, f0, f1⟩ := box2 k1'
          have hl1 : w.heap.size + 1 < wr.heap.size := by omega
          have Hw := Lib.hid Hbel.out
          have Ho := Lib.hid Hown.out
          go_wp2
          all_goals
            go_region
          all_goals
            go_wp2
            refine bodyPost_ret (v := .tuple #[.slice VA done.length vc, .agg #[.slice (some ⟨g, 0, none⟩) p p, .int .i64 (min t.2 (p : Int))], .int .i64 0]) (by simp [results, Tryd.results23, go_sem, g0, g1, f0, f1, hl1]) rfl ?_
            exact rec_fin (R := w.heap.size + 1) (by rw [Hv.out, Hend.out]) hpl (by omega) (by omega) HA0.out Hw.out Ho.out (by first | exact (((Same.refl (fun b => b ≠ w.heap.size + 1) _).setCell (p := ⟨w.heap.size + 1, 0, none⟩) (show ¬ (w.heap.size + 1 ≠ w.heap.size + 1) from fun h => h rfl) _).setCell (p := ⟨w.heap.size + 1, 1, none⟩) (show ¬ (w.heap.size + 1 ≠ w.heap.size + 1) from fun h => h rfl) _).drew | exact (((Same.refl (fun b => b ≠ w.heap.size + 1) _).setCell (p := ⟨w.heap.size + 1, 0, none⟩) (show ¬ (w.heap.size + 1 ≠ w.heap.size + 1) from fun h => h rfl) _).setCell (p := ⟨w.heap.size + 1, 1, none⟩) (show ¬ (w.heap.size + 1 ≠ w.heap.size + 1) from fun h => h rfl) _) | exact ((((Same.refl (fun b => b ≠ w.heap.size + 1) _).drewN _).setCell (p := ⟨w.heap.size + 1, 0, none⟩) (show ¬ (w.heap.size + 1 ≠ w.heap.size + 1) from fun h => h rfl) _).setCell (p := ⟨w.heap.size + 1, 1, none⟩) (show ¬ (w.heap.size + 1 ≠ w.heap.size + 1) from fun h => h rfl) _).drew | exact ((((Same.refl (fun b => b ≠ w.heap.size + 1) _).drewN _).setCell (p := ⟨w.heap.size + 1, 0, none⟩) (show ¬ (w.heap.size + 1 ≠ w.heap.size + 1) from fun h => h rfl) _).setCell (p := ⟨w.heap.size + 1, 1, none⟩) (show ¬ (w.heap.size + 1 ≠ w.heap.size + 1) from fun h => h rfl) _) | exact ((((Same.refl (fun b => b ≠ w.heap.size + 1) _).setCell (p := ⟨w.heap.size + 1, 0, none⟩) (show ¬ (w.heap.size + 1 ≠ w.heap.size + 1) from fun h => h rfl) _).setCell (p := ⟨w.heap.size + 1, 1, none⟩) (show ¬ (w.heap.size + 1 ≠ w.heap.size + 1) from fun h => h rfl) _).alloc _).drew | exact ((((Same.refl (fun b => b ≠ w.heap.size + 1) _).setCell (p := ⟨w.heap.size + 1, 0, none⟩) (show ¬ (w.heap.size + 1 ≠ w.heap.size + 1) from fun h => h rfl) _).setCell (p := ⟨w.heap.size + 1, 1, none⟩) (show ¬ (w.heap.size + 1 ≠ w.heap.size + 1) from fun h => h rfl) _).alloc _) | exact (((((Same.refl (fun b => b ≠ w.heap.size + 1) _).drewN _).setCell (p := ⟨w.heap.size + 1, 0, none⟩) (show ¬ (w.heap.size + 1 ≠ w.heap.size + 1) from fun h => h rfl) _).setCell (p := ⟨w.heap.size + 1, 1, none⟩) (show ¬ (w.heap.size + 1 ≠ w.heap.size + 1) from fun h => h rfl) _).alloc _).drew | exact (((((Same.refl (fun b => b ≠ w.heap.size + 1) _).drewN _).setCell (p := ⟨w.heap.size + 1, 0, none⟩) (show ¬ (w.heap.size + 1 ≠ w.heap.size + 1) from fun h => h rfl) _).setCell (p := ⟨w.heap.size + 1, 1, none⟩) (show ¬ (w.heap.size + 1 ≠ w.heap.size + 1) from fun h => h rfl) _).alloc _)) (by first | exact ((((B0.out.next Hw.out B0.out.size)).setCell (p := ⟨w.heap.size + 1, 0, none⟩) (Nat.le_succ _) _).setCell (p := ⟨w.heap.size + 1, 1, none⟩) (Nat.le_succ _) _).drew | exact ((((B0.out.next Hw.out B0.out.size)).setCell (p := ⟨w.heap.size + 1, 0, none⟩) (Nat.le_succ _) _).setCell (p := ⟨w.heap.size + 1, 1, none⟩) (Nat.le_succ _) _) | exact ((((below_drewN (B0.out.next Hw.out B0.out.size) _)).setCell (p := ⟨w.heap.size + 1, 0, none⟩) (Nat.le_succ _) _).setCell (p := ⟨w.heap.size + 1, 1, none⟩) (Nat.le_succ _) _).drew | exact ((((below_drewN (B0.out.next Hw.out B0.out.size) _)).setCell (p := ⟨w.heap.size + 1, 0, none⟩) (Nat.le_succ _) _).setCell (p := ⟨w.heap.size + 1, 1, none⟩) (Nat.le_succ _) _) | exact (((((B0.out.next Hw.out B0.out.size)).setCell (p := ⟨w.heap.size + 1, 0, none⟩) (Nat.le_succ _) _).setCell (p := ⟨w.heap.size + 1, 1, none⟩) (Nat.le_succ _) _).alloc (Below.size ((((B0.out.next Hw.out B0.out.size)).setCell (p := ⟨w.heap.size + 1, 0, none⟩) (Nat.le_succ _) _).setCell (p := ⟨w.heap.size + 1, 1, none⟩) (Nat.le_succ _) _)) _).drew | exact (((((B0.out.next Hw.out B0.out.size)).setCell (p := ⟨w.heap.size + 1, 0, none⟩) (Nat.le_succ _) _).setCell (p := ⟨w.heap.size + 1, 1, none⟩) (Nat.le_succ _) _).alloc (Below.size ((((B0.out.next Hw.out B0.out.size)).setCell (p := ⟨w.heap.size + 1, 0, none⟩) (Nat.le_succ _) _).setCell (p := ⟨w.heap.size + 1, 1, none⟩) (Nat.le_succ _) _)) _) | exact (((((below_drewN (B0.out.next Hw.out B0.out.size) _)).setCell (p := ⟨w.heap.size + 1, 0, none⟩) (Nat.le_succ _) _).setCell (p := ⟨w.heap.size + 1, 1, none⟩) (Nat.le_succ _) _).alloc (Below.size ((((below_drewN (B0.out.next Hw.out B0.out.size) _)).setCell (p := ⟨w.heap.size + 1, 0, none⟩) (Nat.le_succ _) _).setCell (p := ⟨w.heap.size + 1, 1, none⟩) (Nat.le_succ _) _)) _).drew | exact (((((below_drewN (B0.out.next Hw.out B0.out.size) _)).setCell (p := ⟨w.heap.size + 1, 0, none⟩) (Nat.le_succ _) _).setCell (p := ⟨w.heap.size + 1, 1, none⟩) (Nat.le_succ _) _).alloc (Below.size ((((below_drewN (B0.out.next Hw.out B0.out.size) _)).setCell (p := ⟨w.heap.size + 1, 0, none⟩) (Nat.le_succ _) _).setCell (p := ⟨w.heap.size + 1, 1, none⟩) (Nat.le_succ _) _)) _))
        · have z1 : ¬ ((t.1.length - p : Nat) : Int) < 2 := by omega
          have hpc : p < c1 := by omega
          have j0 : (0 : Int) < ((t.1.length - p : Nat) : Int) := by omega
          have j1 : (1 : Int) < ((t.1.length - p : Nat) : Int) := by omega
          obtain ⟨_, _, e1, _, hgl, hc2⟩ := (HA0.out.bbelow Hbel.out).bat (k := p) (by omega)
          cases e1
          obtain ⟨_, _, e2, _, _, hc3⟩ := (HA0.out.bbelow Hbel.out).bat (k := p + 1) (by omega)
          cases e2
          obtain ⟨a, hae⟩ : ∃ a, a = t.1[p]'(by omega) := ⟨_, rfl⟩
          obtain ⟨b, hbe⟩ : ∃ b, b = t.1[p + 1]'(by omega) := ⟨_, rfl⟩
          have hal := a.toNat_lt
          have hbl := b.toNat_lt
          rw [← hae] at hc2
          rw [← hbe] at hc3
          rw [Nat.zero_add] at hc2 hc3
          have hdr : t.1.drop p = a :: b :: t.1.drop (p + 2) := by
            rw [List.drop_eq_getElem_cons (by omega), List.drop_eq_getElem_cons (i := p + 1) (by omega), ← hae, ← hbe]
          have Hdr := Lib.hid hdr
          have hre : (t.1.drop (p + 2)).length = t.1.length - (p + 2) := List.length_drop
          clear hae hbe hdr
          have k1' := (Hbel.out.block (w.heap.size + 1) (by omega)).trans R0.out
          obtain ⟨g0, g1, f0, f1⟩ := box2 k1'
          have hl1 : w.heap.size + 1 < wr.heap.size := by omega
          have Hw := Lib.hid Hbel.out
          have Ho := Lib.hid Hown.out
          by_cases h3 : 4000 < 256 * a.toNat + b.toNat + 2
          · have Hend := Lib.hid (recAt_end Hat.out (fun k => recF_none (by rw [Hdr.out]; exact frame_long (.inl h3))))
            have z2 : decide ((4000 : Int) < 2 + (a.toNat : Int) * 256 + (b.toNat : Int)) = true := by simp; omega
            clear hre h3
            go_wp2
            go_quiet (fail)
            go_wp2
            all_goals
              go_region
            all_goals
              go_wp2
              refine bodyPost_ret (v := .tuple #[.slice VA done.length vc, .agg #[.slice (some ⟨g, 0, none⟩) p p, .int .i64 (min t.2 (p : Int))], .int .i64 0]) (by simp [results, Tryd.results23, go_sem, g0, g1, f0, f1, hl1]) rfl ?_
              exact rec_fin (R := w.heap.size + 1) (by rw [Hv.out, Hend.out]) hpl (by omega) (by omega) HA0.out Hw.out Ho.out (by first | exact (((Same.refl (fun b => b ≠ w.heap.size + 1) _).setCell (p := ⟨w.heap.size + 1, 0, none⟩) (show ¬ (w.heap.size + 1 ≠ w.heap.size + 1) from fun h => h rfl) _).setCell (p := ⟨w.heap.size + 1, 1, none⟩) (show ¬ (w.heap.size + 1 ≠ w.heap.size + 1) from fun h => h rfl) _).drew | exact (((Same.refl (fun b => b ≠ w.heap.size + 1) _).setCell (p := ⟨w.heap.size + 1, 0, none⟩) (show ¬ (w.heap.size + 1 ≠ w.heap.size + 1) from fun h => h rfl) _).setCell (p := ⟨w.heap.size + 1, 1, none⟩) (show ¬ (w.heap.size + 1 ≠ w.heap.size + 1) from fun h => h rfl) _) | exact ((((Same.refl (fun b => b ≠ w.heap.size + 1) _).drewN _).setCell (p := ⟨w.heap.size + 1, 0, none⟩) (show ¬ (w.heap.size + 1 ≠ w.heap.size + 1) from fun h => h rfl) _).setCell (p := ⟨w.heap.size + 1, 1, none⟩) (show ¬ (w.heap.size + 1 ≠ w.heap.size + 1) from fun h => h rfl) _).drew | exact ((((Same.refl (fun b => b ≠ w.heap.size + 1) _).drewN _).setCell (p := ⟨w.heap.size + 1, 0, none⟩) (show ¬ (w.heap.size + 1 ≠ w.heap.size + 1) from fun h => h rfl) _).setCell (p := ⟨w.heap.size + 1, 1, none⟩) (show ¬ (w.heap.size + 1 ≠ w.heap.size + 1) from fun h => h rfl) _) | exact ((((Same.refl (fun b => b ≠ w.heap.size + 1) _).setCell (p := ⟨w.heap.size + 1, 0, none⟩) (show ¬ (w.heap.size + 1 ≠ w.heap.size + 1) from fun h => h rfl) _).setCell (p := ⟨w.heap.size + 1, 1, none⟩) (show ¬ (w.heap.size + 1 ≠ w.heap.size + 1) from fun h => h rfl) _).alloc _).drew | exact ((((Same.refl (fun b => b ≠ w.heap.size + 1) _).setCell (p := ⟨w.heap.size + 1, 0, none⟩) (show ¬ (w.heap.size + 1 ≠ w.heap.size + 1) from fun h => h rfl) _).setCell (p := ⟨w.heap.size + 1, 1, none⟩) (show ¬ (w.heap.size + 1 ≠ w.heap.size + 1) from fun h => h rfl) _).alloc _) | exact (((((Same.refl (fun b => b ≠ w.heap.size + 1) _).drewN _).setCell (p := ⟨w.heap.size + 1, 0, none⟩) (show ¬ (w.heap.size + 1 ≠ w.heap.size + 1) from fun h => h rfl) _).setCell (p := ⟨w.heap.size + 1, 1, none⟩) (show ¬ (w.heap.size + 1 ≠ w.heap.size + 1) from fun h => h rfl) _).alloc _).drew | exact (((((Same.refl (fun b => b ≠ w.heap.size + 1) _).drewN _).setCell (p := ⟨w.heap.size + 1, 0, none⟩) (show ¬ (w.heap.size + 1 ≠ w.heap.size + 1) from fun h => h rfl) _).setCell (p := ⟨w.heap.size + 1, 1, none⟩) (show ¬ (w.heap.size + 1 ≠ w.heap.size + 1) from fun h => h rfl) _).alloc _)) (by first | exact ((((B0.out.next Hw.out B0.out.size)).setCell (p := ⟨w.heap.size + 1, 0, none⟩) (Nat.le_succ _) _).setCell (p := ⟨w.heap.size + 1, 1, none⟩) (Nat.le_succ _) _).drew | exact ((((B0.out.next Hw.out B0.out.size)).setCell (p := ⟨w.heap.size + 1, 0, none⟩) (Nat.le_succ _) _).setCell (p := ⟨w.heap.size + 1, 1, none⟩) (Nat.le_succ _) _) | exact ((((below_drewN (B0.out.next Hw.out B0.out.size) _)).setCell (p := ⟨w.heap.size + 1, 0, none⟩) (Nat.le_succ _) _).setCell (p := ⟨w.heap.size + 1, 1, none⟩) (Nat.le_succ _) _).drew | exact ((((below_drewN (B0.out.next Hw.out B0.out.size) _)).setCell (p := ⟨w.heap.size + 1, 0, none⟩) (Nat.le_succ _) _).setCell (p := ⟨w.heap.size + 1, 1, none⟩) (Nat.le_succ _) _) | exact (((((B0.out.next Hw.out B0.out.size)).setCell (p := ⟨w.heap.size + 1, 0, none⟩) (Nat.le_succ _) _).setCell (p := ⟨w.heap.size + 1, 1, none⟩) (Nat.le_succ _) _).alloc (Below.size ((((B0.out.next Hw.out B0.out.size)).setCell (p := ⟨w.heap.size + 1, 0, none⟩) (Nat.le_succ _) _).setCell (p := ⟨w.heap.size + 1, 1, none⟩) (Nat.le_succ _) _)) _).drew | exact (((((B0.out.next Hw.out B0.out.size)).setCell (p := ⟨w.heap.size + 1, 0, none⟩) (Nat.le_succ _) _).setCell (p := ⟨w.heap.size + 1, 1, none⟩) (Nat.le_succ _) _).alloc (Below.size ((((B0.out.next Hw.out B0.out.size)).setCell (p := ⟨w.heap.size + 1, 0, none⟩) (Nat.le_succ _) _).setCell (p := ⟨w.heap.size + 1, 1, none⟩) (Nat.le_succ _) _)) _) | exact (((((below_drewN (B0.out.next Hw.out B0.out.size) _)).setCell (p := ⟨w.heap.size + 1, 0, none⟩) (Nat.le_succ _) _).setCell (p := ⟨w.heap.size + 1, 1, none⟩) (Nat.le_succ _) _).alloc (Below.size ((((below_drewN (B0.out.next Hw.out B0.out.size) _)).setCell (p := ⟨w.heap.size + 1, 0, none⟩) (Nat.le_succ _) _).setCell (p := ⟨w.heap.size + 1, 1, none⟩) (Nat.le_succ _) _)) _).drew | exact (((((below_drewN (B0.out.next Hw.out B0.out.size) _)).setCell (p := ⟨w.heap.size + 1, 0, none⟩) (Nat.le_succ _) _).setCell (p := ⟨w.heap.size + 1, 1, none⟩) (Nat.le_succ _) _).alloc (Below.size ((((below_drewN (B0.out.next Hw.out B0.out.size) _)).setCell (p := ⟨w.heap.size + 1, 0, none⟩) (Nat.le_succ _) _).setCell (p := ⟨w.heap.size + 1, 1, none⟩) (Nat.le_succ _) _)) _))
          · have z2 : decide ((4000 : Int) < 2 + (a.toNat : Int) * 256 + (b.toNat : Int)) = false := by simp; omega
            by_cases h4 : t.1.length < p + 2 + 256 * a.toNat + b.toNat + 4
            · have Hend := Lib.hid (recAt_end Hat.out (fun k => recF_none (by rw [Hdr.out]; exact frame_long (.inr (by omega)))))
              have z3 : decide (((t.1.length - p : Nat) : Int) < 2 + (a.toNat : Int) * 256 + (b.toNat : Int) + 4) = true := by simp; omega
              clear hre h3 h4
              go_wp2
              go_quiet (fail)
              go_wp2
              all_goals
                go_region
              all_goals
                go_wp2
                refine bodyPost_ret (v := .tuple #[.slice VA done.length vc, .agg #[.slice (some ⟨g, 0, none⟩) p p, .int .i64 (min t.2 (p : Int))], .int .i64 0]) (by simp [results, Tryd.results23, go_sem, g0, g1, f0, f1, hl1]) rfl ?_
                exact rec_fin (R := w.heap.size + 1) (by rw [Hv.out, Hend.out]) hpl (by omega) (by omega) HA0.out Hw.out Ho.out (by first | exact (((Same.refl (fun b => b ≠ w.heap.size + 1) _).setCell (p := ⟨w.heap.size + 1, 0, none⟩) (show ¬ (w.heap.size + 1 ≠ w.heap.size + 1) from fun h => h rfl) _).setCell (p := ⟨w.heap.size + 1, 1, none⟩) (show ¬ (w.heap.size + 1 ≠ w.heap.size + 1) from fun h => h rfl) _).drew | exact (((Same.refl (fun b => b ≠ w.heap.size + 1) _).setCell (p := ⟨w.heap.size + 1, 0, none⟩) (show ¬ (w.heap.size + 1 ≠ w.heap.size + 1) from fun h => h rfl) _).setCell (p := ⟨w.heap.size + 1, 1, none⟩) (show ¬ (w.heap.size + 1 ≠ w.heap.size + 1) from fun h => h rfl) _) | exact ((((Same.refl (fun b => b ≠ w.heap.size + 1) _).drewN _).setCell (p := ⟨w.heap.size + 1, 0, none⟩) (show ¬ (w.heap.size + 1 ≠ w.heap.size + 1) from fun h => h rfl) _).setCell (p := ⟨w.heap.size + 1, 1, none⟩) (show ¬ (w.heap.size + 1 ≠ w.heap.size + 1) from fun h => h rfl) _).drew | exact ((((Same.refl (fun b => b ≠ w.heap.size + 1) _).drewN _).setCell (p := ⟨w.heap.size + 1, 0, none⟩) (show ¬ (w.heap.size + 1 ≠ w.heap.size + 1) from fun h => h rfl) _).setCell (p := ⟨w.heap.size + 1, 1, none⟩) (show ¬ (w.heap.size + 1 ≠ w.heap.size + 1) from fun h => h rfl) _) | exact ((((Same.refl (fun b => b ≠ w.heap.size + 1) _).setCell (p := ⟨w.heap.size + 1, 0, none⟩) (show ¬ (w.heap.size + 1 ≠ w.heap.size + 1) from fun h => h rfl) _).setCell (p := ⟨w.heap.size + 1, 1, none⟩) (show ¬ (w.heap.size + 1 ≠ w.heap.size + 1) from fun h => h rfl) _).alloc _).drew | exact ((((Same.refl (fun b => b ≠ w.heap.size + 1) _).setCell (p := ⟨w.heap.size + 1, 0, none⟩) (show ¬ (w.heap.size + 1 ≠ w.heap.size + 1) from fun h => h rfl) _).setCell (p := ⟨w.heap.size + 1, 1, none⟩) (show ¬ (w.heap.size + 1 ≠ w.heap.size + 1) from fun h => h rfl) _).alloc _) | exact (((((Same.refl (fun b => b ≠ w.heap.size + 1) _).drewN _).setCell (p := ⟨w.heap.size + 1, 0, none⟩) (show ¬ (w.heap.size + 1 ≠ w.heap.size + 1) from fun h => h rfl) _).setCell (p := ⟨w.heap.size + 1, 1, none⟩) (show ¬ (w.heap.size + 1 ≠ w.heap.size + 1) from fun h => h rfl) _).alloc _).drew | exact (((((Same.refl (fun b => b ≠ w.heap.size + 1) _).drewN _).setCell (p := ⟨w.heap.size + 1, 0, none⟩) (show ¬ (w.heap.size + 1 ≠ w.heap.size + 1) from fun h => h rfl) _).setCell (p := ⟨w.heap.size + 1, 1, none⟩) (show ¬ (w.heap.size + 1 ≠ w.heap.size + 1) from fun h => h rfl) _).alloc _)) (by first | exact ((((B0.out.next Hw.out B0.out.size)).setCell (p := ⟨w.heap.size + 1, 0, none⟩) (Nat.le_succ _) _).setCell (p := ⟨w.heap.size + 1, 1, none⟩) (Nat.le_succ _) _).drew | exact ((((B0.out.next Hw.out B0.out.size)).setCell (p := ⟨w.heap.size + 1, 0, none⟩) (Nat.le_succ _) _).setCell (p := ⟨w.heap.size + 1, 1, none⟩) (Nat.le_succ _) _) | exact ((((below_drewN (B0.out.next Hw.out B0.out.size) _)).setCell (p := ⟨w.heap.size + 1, 0, none⟩) (Nat.le_succ _) _).setCell (p := ⟨w.heap.size + 1, 1, none⟩) (Nat.le_succ _) _).drew | exact ((((below_drewN (B0.out.next Hw.out B0.out.size) _)).setCell (p := ⟨w.heap.size + 1, 0, none⟩) (Nat.le_succ _) _).setCell (p := ⟨w.heap.size + 1, 1, none⟩) (Nat.le_succ _) _) | exact (((((B0.out.next Hw.out B0.out.size)).setCell (p := ⟨w.heap.size + 1, 0, none⟩) (Nat.le_succ _) _).setCell (p := ⟨w.heap.size + 1, 1, none⟩) (Nat.le_succ _) _).alloc (Below.size ((((B0.out.next Hw.out B0.out.size)).setCell (p := ⟨w.heap.size + 1, 0, none⟩) (Nat.le_succ _) _).setCell (p := ⟨w.heap.size + 1, 1, none⟩) (Nat.le_succ _) _)) _).drew | exact (((((B0.out.next Hw.out B0.out.size)).setCell (p := ⟨w.heap.size + 1, 0, none⟩) (Nat.le_succ _) _).setCell (p := ⟨w.heap.size + 1, 1, none⟩) (Nat.le_succ _) _).alloc (Below.size ((((B0.out.next Hw.out B0.out.size)).setCell (p := ⟨w.heap.size + 1, 0, none⟩) (Nat.le_succ _) _).setCell (p := ⟨w.heap.size + 1, 1, none⟩) (Nat.le_succ _) _)) _) | exact (((((below_drewN (B0.out.next Hw.out B0.out.size) _)).setCell (p := ⟨w.heap.size + 1, 0, none⟩) (Nat.le_succ _) _).setCell (p := ⟨w.heap.size + 1, 1, none⟩) (Nat.le_succ _) _).alloc (Below.size ((((below_drewN (B0.out.next Hw.out B0.out.size) _)).setCell (p := ⟨w.heap.size + 1, 0, none⟩) (Nat.le_succ _) _).setCell (p := ⟨w.heap.size + 1, 1, none⟩) (Nat.le_succ _) _)) _).drew | exact (((((below_drewN (B0.out.next Hw.out B0.out.size) _)).setCell (p := ⟨w.heap.size + 1, 0, none⟩) (Nat.le_succ _) _).setCell (p := ⟨w.heap.size + 1, 1, none⟩) (Nat.le_succ _) _).alloc (Below.size ((((below_drewN (B0.out.next Hw.out B0.out.size) _)).setCell (p := ⟨w.heap.size + 1, 0, none⟩) (Nat.le_succ _) _).setCell (p := ⟨w.heap.size + 1, 1, none⟩) (Nat.le_succ _) _)) _))
            · have z3 : decide (((t.1.length - p : Nat) : Int) < 2 + (a.toNat : Int) * 256 + (b.toNat : Int) + 4) = false := by simp; omega
              have hfit : ¬ (4000 < 256 * a.toNat + b.toNat + 2 ∨ (t.1.drop (p + 2)).length < 256 * a.toNat + b.toNat + 4) := by omega
              obtain ⟨X, hX⟩ : ∃ X, X = (t.1.drop p).take (256 * a.toNat + b.toNat + 2) := ⟨_, rfl⟩
              have hX' : X = a :: b :: (t.1.drop (p + 2)).take (256 * a.toNat + b.toNat) := by rw [hX, Hdr.out]; rfl
              obtain ⟨Y, hY⟩ : ∃ Y, Y = (t.1.drop (p + (2 + a.toNat * 256 + b.toNat))).take 4 := ⟨_, rfl⟩
              have hY' : Y = ((t.1.drop (p + 2)).drop (256 * a.toNat + b.toNat)).take 4 := by rw [hY, List.drop_drop, show p + 2 + (256 * a.toNat + b.toNat) = p + (2 + a.toNat * 256 + b.toNat) by omega]
              obtain ⟨R, hR⟩ : ∃ R, R = (t.1.drop (p + 2)).take (256 * a.toNat + b.toNat) := ⟨_, rfl⟩
              obtain ⟨D, hD⟩ : ∃ D, D = digS X := ⟨_, rfl⟩
              have Hdl := Lib.hid (show D.length = 32 by rw [hD]; exact dig_len _)
              have hXl : X.length = 256 * a.toNat + b.toNat + 2 := by rw [hX, List.length_take, List.length_drop]; omega
              have hYl : Y.length = 4 := by rw [hY, List.length_take, List.length_drop]; omega
              have hRl : R.length = 256 * a.toNat + b.toNat := by rw [hR, List.length_take, List.length_drop]; omega
              have HAr := Lib.hid (HA0.out.bz.bbelow Hbel.out)
              have HX := Lib.hid (show Bs All wr (some ⟨g, p, none⟩) X by rw [hX]; exact bs_at HAr.out _ _)
              have HY := Lib.hid (show Bs All wr (some ⟨g, p + (2 + a.toNat * 256 + b.toNat), none⟩) Y by rw [hY]; exact bs_at HAr.out _ _)
              have HR := Lib.hid (show Bs All wr (some ⟨g, p + 2, none⟩) R by rw [hR]; exact bs_at HAr.out _ _)
              have HD := Lib.hid (show ∀ (W : World) (A' : Option Addr) (n' c' : Nat), TabsAt W → n' = X.length → Bs All W A' X → Calls Tryd.prog 51 #[.slice A' n' c'] W (fun e w' => ∃ B d, e = .returned (.tuple #[.slice B D.length d, .int .i64 0]) ∧ D.length ≤ d ∧ Bs (From W.heap.size) w' B D ∧ Below W.heap.size W w') from fun W A' n' c' h0 h1 h2 => by subst h1; rw [hD]; exact digSum_cap W h0 A' X c' h2 (by omega))
              obtain ⟨q, hq⟩ : ∃ q, q = (D.take 4 == Y) := ⟨_, rfl⟩
              have HS := Lib.hid (show ∀ (W : World) (A' B' : Option Addr) (n1 c' d' : Nat), n1 = 4 → Bs All W A' (D.take 4) → Bs All W B' Y → Calls Tryd.prog 57 #[.slice A' n1 c', .slice B' n1 d'] W (fun e w' => e = .returned (.bool q) ∧ ∃ m, w' = W.drewN m) from fun W A' B' n1 c' d' h1 h3 h4 => by
                subst h1
                rw [hq]
                exact slEqual_ok W A' B' (D.take 4) Y 4 c' d' h3 h4 (by rw [List.length_take, Hdl.out]; rfl) hYl (by unfold big; omega))
              obtain ⟨x, er, hxe⟩ : ∃ x er, decS R = (x, er) := ⟨_, _, rfl⟩
              have HC := Lib.hid (show ∀ (W : World) (A' : Option Addr) (n' c' : Nat), n' = R.length → n' ≤ c' → Bs All W A' R → Calls Tryd.prog 58 #[.slice A' n' c'] W (RetCmE W (x, er)) from fun W A' n' c' h1 h2 h3 => by subst h1; rw [← hxe]; exact decode_ok W A' R c' h3 h2)
              have hfew : x.2.length * 80 ≤ 140737488355328 := by have := dec_few R; rw [hxe] at this; exact this
              have Hf0 := Lib.hid (show q = false → frameF (t.1.drop p) = none from fun h => by
                rw [Hdr.out]
                refine frame_sum ?_
                rw [← hX', ← hY', ← hD]
                rw [hq] at h
                simpa using h)
              have Hf1 := Lib.hid (show er ≠ 0 → frameF (t.1.drop p) = none from fun h => by
                rw [Hdr.out]
                refine frame_dec ?_
                rw [← hR, hxe]
                exact h)
              have Hf2 := Lib.hid (show q = true → er = 0 → frameF (t.1.drop p) = some (x, 256 * a.toNat + b.toNat + 6) from fun h h' => by
                rw [Hdr.out, frame_fits hfit (by rw [← hX', ← hY', ← hD]; rw [hq] at h; simpa using h) (by rw [← hR, hxe]; exact h'), ← hR, hxe])
              have HXl := Lib.hid hXl
              have HRl := Lib.hid hRl
              have HTr := Lib.hid (HT0.out.below Hbel.out)
              have s0 : (0 : Int) ≤ 2 + (a.toNat : Int) * 256 + (b.toNat : Int) := by omega
              have s1 : 2 + (a.toNat : Int) * 256 + (b.toNat : Int) ≤ ((c1 - p : Nat) : Int) := by omega
              have s2 : 2 + (a.toNat : Int) * 256 + (b.toNat : Int) + 4 ≤ ((c1 - p : Nat) : Int) := by omega
              have s3 : (2 : Int) ≤ 2 + (a.toNat : Int) * 256 + (b.toNat : Int) := by omega
              clear hre h3 h4 hX hX' hY hY' hR hD hq hxe hXl hYl hRl hfit
              cases q with
              | false =>
                have Hend := Lib.hid (recAt_end Hat.out (fun k => recF_none (Hf0.out rfl)))
                clear Hf0 Hf1 Hf2
                go_wp2
                go_quiet (fail)
                go_wp2_with (go_at_call 51; (with_reducible refine (HD.out _ _ _ _ ?ht ?hn ?hb).mono ?_); (case ht => exact HTr.out.bsame ((Same.refl All wr).drewN _) ⟨trivial, trivial, trivial⟩); (case hn => (have := HXl.out; omega)); (case hb => exact HX.out.bsame ((Same.refl _ _).drewN _)); rintro e w2 ⟨D1, dd, rfl, hdc, hs2, hb2⟩; have h4d : 4 ≤ dd := (by have := Hdl.out; omega); have hdb := hs2 (by rw [Hdl.out]; omega); obtain ⟨db, dof, rfl, _⟩ := hdb; have hwr2 : Below wr.heap.size wr w2 := (below_drewN (Below.refl wr.heap.size wr) _).next hb2 (Nat.le_refl _); have hw02 : Below w0.heap.size w0 w2 := Hbel.out.next hwr2 Hbel.out.size; have hy2 : wr.heap.size ≤ w2.heap.size := hwr2.size; have Ho := Lib.hid (Own.below cmR_stays Hown.out hwr2); obtain ⟨x0, x1, _, _⟩ := box2 ((hw02.block G hG0).trans X0.out); obtain ⟨g0, g1, f0, f1⟩ := box2 ((hw02.block (w.heap.size + 1) (by omega)).trans R0.out); have hz9 : w0.heap.size ≤ w2.heap.size := hw02.size; have hl1 : w.heap.size + 1 < w2.heap.size := (by omega); have hGl : G < w2.heap.size := (by omega); have Hw := Lib.hid hw02)
                go_quiet ((go_at_call 57; exact Calls.quiet_of (HS.out _ _ _ _ _ _ (by omega) ((bs_topT (SL.bz hs2) 4).bsame ((Same.refl _ _).drewN _)) ((HY.out.bbelow hwr2).bsame ((Same.refl _ _).drewN _)))))
                go_wp2
                all_goals
                  go_region
                all_goals
                  go_wp2
                  refine bodyPost_ret (v := .tuple #[.slice VA done.length vc, .agg #[.slice (some ⟨g, 0, none⟩) p p, .int .i64 (min t.2 (p : Int))], .int .i64 0]) (by simp [results, Tryd.results23, go_sem, g0, g1, f0, f1, hl1]) rfl ?_
                  exact rec_fin (R := w.heap.size + 1) (by rw [Hv.out, Hend.out]) hpl (by omega) (by omega) HA0.out Hw.out Ho.out (by first | exact (((Same.refl (fun b => b ≠ w.heap.size + 1) _).setCell (p := ⟨w.heap.size + 1, 0, none⟩) (show ¬ (w.heap.size + 1 ≠ w.heap.size + 1) from fun h => h rfl) _).setCell (p := ⟨w.heap.size + 1, 1, none⟩) (show ¬ (w.heap.size + 1 ≠ w.heap.size + 1) from fun h => h rfl) _).drew | exact (((Same.refl (fun b => b ≠ w.heap.size + 1) _).setCell (p := ⟨w.heap.size + 1, 0, none⟩) (show ¬ (w.heap.size + 1 ≠ w.heap.size + 1) from fun h => h rfl) _).setCell (p := ⟨w.heap.size + 1, 1, none⟩) (show ¬ (w.heap.size + 1 ≠ w.heap.size + 1) from fun h => h rfl) _) | exact ((((Same.refl (fun b => b ≠ w.heap.size + 1) _).drewN _).setCell (p := ⟨w.heap.size + 1, 0, none⟩) (show ¬ (w.heap.size + 1 ≠ w.heap.size + 1) from fun h => h rfl) _).setCell (p := ⟨w.heap.size + 1, 1, none⟩) (show ¬ (w.heap.size + 1 ≠ w.heap.size + 1) from fun h => h rfl) _).drew | exact ((((Same.refl (fun b => b ≠ w.heap.size + 1) _).drewN _).setCell (p := ⟨w.heap.size + 1, 0, none⟩) (show ¬ (w.heap.size + 1 ≠ w.heap.size + 1) from fun h => h rfl) _).setCell (p := ⟨w.heap.size + 1, 1, none⟩) (show ¬ (w.heap.size + 1 ≠ w.heap.size + 1) from fun h => h rfl) _) | exact ((((Same.refl (fun b => b ≠ w.heap.size + 1) _).setCell (p := ⟨w.heap.size + 1, 0, none⟩) (show ¬ (w.heap.size + 1 ≠ w.heap.size + 1) from fun h => h rfl) _).setCell (p := ⟨w.heap.size + 1, 1, none⟩) (show ¬ (w.heap.size + 1 ≠ w.heap.size + 1) from fun h => h rfl) _).alloc _).drew | exact ((((Same.refl (fun b => b ≠ w.heap.size + 1) _).setCell (p := ⟨w.heap.size + 1, 0, none⟩) (show ¬ (w.heap.size + 1 ≠ w.heap.size + 1) from fun h => h rfl) _).setCell (p := ⟨w.heap.size + 1, 1, none⟩) (show ¬ (w.heap.size + 1 ≠ w.heap.size + 1) from fun h => h rfl) _).alloc _) | exact (((((Same.refl (fun b => b ≠ w.heap.size + 1) _).drewN _).setCell (p := ⟨w.heap.size + 1, 0, none⟩) (show ¬ (w.heap.size + 1 ≠ w.heap.size + 1) from fun h => h rfl) _).setCell (p := ⟨w.heap.size + 1, 1, none⟩) (show ¬ (w.heap.size + 1 ≠ w.heap.size + 1) from fun h => h rfl) _).alloc _).drew | exact (((((Same.refl (fun b => b ≠ w.heap.size + 1) _).drewN _).setCell (p := ⟨w.heap.size + 1, 0, none⟩) (show ¬ (w.heap.size + 1 ≠ w.heap.size + 1) from fun h => h rfl) _).setCell (p := ⟨w.heap.size + 1, 1, none⟩) (show ¬ (w.heap.size + 1 ≠ w.heap.size + 1) from fun h => h rfl) _).alloc _)) (by first | exact ((((B0.out.next Hw.out B0.out.size)).setCell (p := ⟨w.heap.size + 1, 0, none⟩) (Nat.le_succ _) _).setCell (p := ⟨w.heap.size + 1, 1, none⟩) (Nat.le_succ _) _).drew | exact ((((B0.out.next Hw.out B0.out.size)).setCell (p := ⟨w.heap.size + 1, 0, none⟩) (Nat.le_succ _) _).setCell (p := ⟨w.heap.size + 1, 1, none⟩) (Nat.le_succ _) _) | exact ((((below_drewN (B0.out.next Hw.out B0.out.size) _)).setCell (p := ⟨w.heap.size + 1, 0, none⟩) (Nat.le_succ _) _).setCell (p := ⟨w.heap.size + 1, 1, none⟩) (Nat.le_succ _) _).drew | exact ((((below_drewN (B0.out.next Hw.out B0.out.size) _)).setCell (p := ⟨w.heap.size + 1, 0, none⟩) (Nat.le_succ _) _).setCell (p := ⟨w.heap.size + 1, 1, none⟩) (Nat.le_succ _) _) | exact (((((B0.out.next Hw.out B0.out.size)).setCell (p := ⟨w.heap.size + 1, 0, none⟩) (Nat.le_succ _) _).setCell (p := ⟨w.heap.size + 1, 1, none⟩) (Nat.le_succ _) _).alloc (Below.size ((((B0.out.next Hw.out B0.out.size)).setCell (p := ⟨w.heap.size + 1, 0, none⟩) (Nat.le_succ _) _).setCell (p := ⟨w.heap.size + 1, 1, none⟩) (Nat.le_succ _) _)) _).drew | exact (((((B0.out.next Hw.out B0.out.size)).setCell (p := ⟨w.heap.size + 1, 0, none⟩) (Nat.le_succ _) _).setCell (p := ⟨w.heap.size + 1, 1, none⟩) (Nat.le_succ _) _).alloc (Below.size ((((B0.out.next Hw.out B0.out.size)).setCell (p := ⟨w.heap.size + 1, 0, none⟩) (Nat.le_succ _) _).setCell (p := ⟨w.heap.size + 1, 1, none⟩) (Nat.le_succ _) _)) _) | exact (((((below_drewN (B0.out.next Hw.out B0.out.size) _)).setCell (p := ⟨w.heap.size + 1, 0, none⟩) (Nat.le_succ _) _).setCell (p := ⟨w.heap.size + 1, 1, none⟩) (Nat.le_succ _) _).alloc (Below.size ((((below_drewN (B0.out.next Hw.out B0.out.size) _)).setCell (p := ⟨w.heap.size + 1, 0, none⟩) (Nat.le_succ _) _).setCell (p := ⟨w.heap.size + 1, 1, none⟩) (Nat.le_succ _) _)) _).drew | exact (((((below_drewN (B0.out.next Hw.out B0.out.size) _)).setCell (p := ⟨w.heap.size + 1, 0, none⟩) (Nat.le_succ _) _).setCell (p := ⟨w.heap.size + 1, 1, none⟩) (Nat.le_succ _) _).alloc (Below.size ((((below_drewN (B0.out.next Hw.out B0.out.size) _)).setCell (p := ⟨w.heap.size + 1, 0, none⟩) (Nat.le_succ _) _).setCell (p := ⟨w.heap.size + 1, 1, none⟩) (Nat.le_succ _) _)) _))
              | true =>
                by_cases he : er = 0
                · have Hfr := Lib.hid (Hf2.out rfl he)
                  have b1 : (er != 0) = false := by simp [he]
                  clear Hf0 Hf1 Hf2 he
                  by_cases hx : x.1 = (done.length : Int) + 1
                  · have hx' : x.1 = ((done.length + 1 : Nat) : Int) := by omega
                    have Hnx := Lib.hid (recAt_next Hat.out Hfr.out hx')
                    have b2 : (x.1 != (done.length : Int) + 1) = false := by simp [hx]
                    clear hx hx'
                    go_wp2
                    go_quiet (fail)
                    go_wp2_with (go_at_call 51; (with_reducible refine (HD.out _ _ _ _ ?ht ?hn ?hb).mono ?_); (case ht => exact HTr.out.bsame ((Same.refl All wr).drewN _) ⟨trivial, trivial, trivial⟩); (case hn => (have := HXl.out; omega)); (case hb => exact HX.out.bsame ((Same.refl _ _).drewN _)); rintro e w2 ⟨D1, dd, rfl, hdc, hs2, hb2⟩; have h4d : 4 ≤ dd := (by have := Hdl.out; omega); have hdb := hs2 (by rw [Hdl.out]; omega); obtain ⟨db, dof, rfl, _⟩ := hdb; have hwr2 : Below wr.heap.size wr w2 := (below_drewN (Below.refl wr.heap.size wr) _).next hb2 (Nat.le_refl _); have hw02 : Below w0.heap.size w0 w2 := Hbel.out.next hwr2 Hbel.out.size; have hy2 : wr.heap.size ≤ w2.heap.size := hwr2.size; have Ho := Lib.hid (Own.below cmR_stays Hown.out hwr2); obtain ⟨x0, x1, _, _⟩ := box2 ((hw02.block G hG0).trans X0.out); obtain ⟨g0, g1, f0, f1⟩ := box2 ((hw02.block (w.heap.size + 1) (by omega)).trans R0.out); have hz9 : w0.heap.size ≤ w2.heap.size := hw02.size; have hl1 : w.heap.size + 1 < w2.heap.size := (by omega); have hGl : G < w2.heap.size := (by omega); have Hw := Lib.hid hw02)
                    go_quiet ((go_at_call 57; exact Calls.quiet_of (HS.out _ _ _ _ _ _ (by omega) ((bs_topT (SL.bz hs2) 4).bsame ((Same.refl _ _).drewN _)) ((HY.out.bbelow hwr2).bsame ((Same.refl _ _).drewN _)))))
                    go_wp2_with (first | (go_at_call 58; (with_reducible refine (HC.out _ _ _ _ ?hn ?hc ?hb).mono ?_); (case hn => (have := HRl.out; omega)); (case hc => omega); (case hb => exact (HR.out.bbelow hwr2).bsame ((Same.refl _ _).drewN _)); rintro e w3 ⟨A3, n3, rfl, hs3, hb3⟩; have h23 : Below w2.heap.size w2 w3 := (below_drewN (Below.refl w2.heap.size w2) _).next hb3 (Nat.le_refl _); have hw03 : Below w0.heap.size w0 w3 := hw02.next h23 hw02.size; have hy3 : w2.heap.size ≤ w3.heap.size := h23.size; have Ho2 := Ho; have Ho := Lib.hid (Own.below cmR_stays Ho2.out h23); have hs3' : Ws (From w2.heap.size) w3 A3 x.2 := hs3; obtain ⟨x0, x1, _, _⟩ := box2 ((hw03.block G hG0).trans X0.out); obtain ⟨g0, g1, f0, f1⟩ := box2 ((hw03.block (w.heap.size + 1) (by omega)).trans R0.out); have hz9 : w0.heap.size ≤ w3.heap.size := hw03.size; have hl1 : w.heap.size + 1 < w3.heap.size := (by omega); have hGl : G < w3.heap.size := (by omega); have Hw := Lib.hid hw03) | (at_builtin; refine wpl_snoc cmR_stays (S := From w0.heap.size) _ rfl _ _ _ rfl w0.heap.size 48 i0 _ 2 32 Tryd.underlying55 hi0 hz0 hz1 hz2 rfl (by decide) _ done rfl ?hown _ _ [.int .i64 x.1, .slice A3 x.2.length n3] rfl rfl (new_src _ _ [.int .i64 x.1, .slice A3 x.2.length n3] _ (by simp)) (by simp [Value.oneCell']) ?hm ?hby ?hba x ?hd ?_; (case hown => (refine Own.below cmR_stays Ho.out ?_; repeat' (first | exact Below.refl _ _ | assumption | refine Below.drew ?_ | refine below_drewN ?_ _ | refine Below.setCell ?_ (by first | (simp; done) | omega | (simp; omega)) _ | refine Below.alloc ?_ (by first | exact Nat.le_refl _ | omega | (simp; done) | (simp; omega)) _))); (case hm => (simp only [maxLen]; omega)); (case hby => omega); (case hba => (simp; omega)); (case hd => (refine cm_fresh (n := w2.heap.size) hs3' hfew ?_ (by omega) (Ho2.out.apart _ (Nat.le_refl _)); repeat' (first | exact Same.refl _ _ | assumption | refine Same.drew ?_ | refine Same.drewN ?_ _ | refine Same.alloc ?_ _ | refine Same.setCell ?_ (fun hq => by simp only [From] at hq; first | omega | (simp at hq; done) | (simp at hq; omega)) _))); intro v1 w4 hown4 hbw4))
                    have hbb := ((hw03.alloc hw03.size (.cells #[.int .i64 x.1, .slice A3 x.2.length n3] 48)).alloc (by have := hw03.size; simp; omega) (.cells #[.int .i64 x.1, .slice A3 x.2.length n3] 48)).trans hbw4
                    exact ⟨⟨done ++ [x], p + (256 * a.toNat + b.toNat + 6), congrArg (Value.int .i64) (by omega), Hnx.out.1, hown4, hbb⟩, by simp [intOf]; omega⟩
                  · have Hend := Lib.hid (recAt_end Hat.out (fun k => recF_turn Hfr.out (by rw [Int.natCast_add]; exact hx)))
                    have b2 : (x.1 != (done.length : Int) + 1) = true := by simpa using hx
                    clear hx
                    go_wp2
                    go_quiet (fail)
                    go_wp2_with (go_at_call 51; (with_reducible refine (HD.out _ _ _ _ ?ht ?hn ?hb).mono ?_); (case ht => exact HTr.out.bsame ((Same.refl All wr).drewN _) ⟨trivial, trivial, trivial⟩); (case hn => (have := HXl.out; omega)); (case hb => exact HX.out.bsame ((Same.refl _ _).drewN _)); rintro e w2 ⟨D1, dd, rfl, hdc, hs2, hb2⟩; have h4d : 4 ≤ dd := (by have := Hdl.out; omega); have hdb := hs2 (by rw [Hdl.out]; omega); obtain ⟨db, dof, rfl, _⟩ := hdb; have hwr2 : Below wr.heap.size wr w2 := (below_drewN (Below.refl wr.heap.size wr) _).next hb2 (Nat.le_refl _); have hw02 : Below w0.heap.size w0 w2 := Hbel.out.next hwr2 Hbel.out.size; have hy2 : wr.heap.size ≤ w2.heap.size := hwr2.size; have Ho := Lib.hid (Own.below cmR_stays Hown.out hwr2); obtain ⟨x0, x1, _, _⟩ := box2 ((hw02.block G hG0).trans X0.out); obtain ⟨g0, g1, f0, f1⟩ := box2 ((hw02.block (w.heap.size + 1) (by omega)).trans R0.out); have hz9 : w0.heap.size ≤ w2.heap.size := hw02.size; have hl1 : w.heap.size + 1 < w2.heap.size := (by omega); have hGl : G < w2.heap.size := (by omega); have Hw := Lib.hid hw02)
                    go_quiet ((go_at_call 57; exact Calls.quiet_of (HS.out _ _ _ _ _ _ (by omega) ((bs_topT (SL.bz hs2) 4).bsame ((Same.refl _ _).drewN _)) ((HY.out.bbelow hwr2).bsame ((Same.refl _ _).drewN _)))))
                    go_wp2_with (go_at_call 58; (with_reducible refine (HC.out _ _ _ _ ?hn ?hc ?hb).mono ?_); (case hn => (have := HRl.out; omega)); (case hc => omega); (case hb => exact (HR.out.bbelow hwr2).bsame ((Same.refl _ _).drewN _)); rintro e w3 ⟨A3, n3, rfl, hs3, hb3⟩; have h23 : Below w2.heap.size w2 w3 := (below_drewN (Below.refl w2.heap.size w2) _).next hb3 (Nat.le_refl _); have hw03 : Below w0.heap.size w0 w3 := hw02.next h23 hw02.size; have hy3 : w2.heap.size ≤ w3.heap.size := h23.size; have Ho2 := Ho; have Ho := Lib.hid (Own.below cmR_stays Ho2.out h23); have hs3' : Ws (From w2.heap.size) w3 A3 x.2 := hs3; obtain ⟨x0, x1, _, _⟩ := box2 ((hw03.block G hG0).trans X0.out); obtain ⟨g0, g1, f0, f1⟩ := box2 ((hw03.block (w.heap.size + 1) (by omega)).trans R0.out); have hz9 : w0.heap.size ≤ w3.heap.size := hw03.size; have hl1 : w.heap.size + 1 < w3.heap.size := (by omega); have hGl : G < w3.heap.size := (by omega); have Hw := Lib.hid hw03)
                    all_goals
                      go_region
                    all_goals
                      go_wp2
                      refine bodyPost_ret (v := .tuple #[.slice VA done.length vc, .agg #[.slice (some ⟨g, 0, none⟩) p p, .int .i64 (min t.2 (p : Int))], .int .i64 0]) (by simp [results, Tryd.results23, go_sem, g0, g1, f0, f1, hl1]) rfl ?_
                      exact rec_fin (R := w.heap.size + 1) (by rw [Hv.out, Hend.out]) hpl (by omega) (by omega) HA0.out Hw.out Ho.out (by first | exact (((Same.refl (fun b => b ≠ w.heap.size + 1) _).setCell (p := ⟨w.heap.size + 1, 0, none⟩) (show ¬ (w.heap.size + 1 ≠ w.heap.size + 1) from fun h => h rfl) _).setCell (p := ⟨w.heap.size + 1, 1, none⟩) (show ¬ (w.heap.size + 1 ≠ w.heap.size + 1) from fun h => h rfl) _).drew | exact (((Same.refl (fun b => b ≠ w.heap.size + 1) _).setCell (p := ⟨w.heap.size + 1, 0, none⟩) (show ¬ (w.heap.size + 1 ≠ w.heap.size + 1) from fun h => h rfl) _).setCell (p := ⟨w.heap.size + 1, 1, none⟩) (show ¬ (w.heap.size + 1 ≠ w.heap.size + 1) from fun h => h rfl) _) | exact ((((Same.refl (fun b => b ≠ w.heap.size + 1) _).drewN _).setCell (p := ⟨w.heap.size + 1, 0, none⟩) (show ¬ (w.heap.size + 1 ≠ w.heap.size + 1) from fun h => h rfl) _).setCell (p := ⟨w.heap.size + 1, 1, none⟩) (show ¬ (w.heap.size + 1 ≠ w.heap.size + 1) from fun h => h rfl) _).drew | exact ((((Same.refl (fun b => b ≠ w.heap.size + 1) _).drewN _).setCell (p := ⟨w.heap.size + 1, 0, none⟩) (show ¬ (w.heap.size + 1 ≠ w.heap.size + 1) from fun h => h rfl) _).setCell (p := ⟨w.heap.size + 1, 1, none⟩) (show ¬ (w.heap.size + 1 ≠ w.heap.size + 1) from fun h => h rfl) _) | exact ((((Same.refl (fun b => b ≠ w.heap.size + 1) _).setCell (p := ⟨w.heap.size + 1, 0, none⟩) (show ¬ (w.heap.size + 1 ≠ w.heap.size + 1) from fun h => h rfl) _).setCell (p := ⟨w.heap.size + 1, 1, none⟩) (show ¬ (w.heap.size + 1 ≠ w.heap.size + 1) from fun h => h rfl) _).alloc _).drew | exact ((((Same.refl (fun b => b ≠ w.heap.size + 1) _).setCell (p := ⟨w.heap.size + 1, 0, none⟩) (show ¬ (w.heap.size + 1 ≠ w.heap.size + 1) from fun h => h rfl) _).setCell (p := ⟨w.heap.size + 1, 1, none⟩) (show ¬ (w.heap.size + 1 ≠ w.heap.size + 1) from fun h => h rfl) _).alloc _) | exact (((((Same.refl (fun b => b ≠ w.heap.size + 1) _).drewN _).setCell (p := ⟨w.heap.size + 1, 0, none⟩) (show ¬ (w.heap.size + 1 ≠ w.heap.size + 1) from fun h => h rfl) _).setCell (p := ⟨w.heap.size + 1, 1, none⟩) (show ¬ (w.heap.size + 1 ≠ w.heap.size + 1) from fun h => h rfl) _).alloc _).drew | exact (((((Same.refl (fun b => b ≠ w.heap.size + 1) _).drewN _).setCell (p := ⟨w.heap.size + 1, 0, none⟩) (show ¬ (w.heap.size + 1 ≠ w.heap.size + 1) from fun h => h rfl) _).setCell (p := ⟨w.heap.size + 1, 1, none⟩) (show ¬ (w.heap.size + 1 ≠ w.heap.size + 1) from fun h => h rfl) _).alloc _)) (by first | exact ((((B0.out.next Hw.out B0.out.size)).setCell (p := ⟨w.heap.size + 1, 0, none⟩) (Nat.le_succ _) _).setCell (p := ⟨w.heap.size + 1, 1, none⟩) (Nat.le_succ _) _).drew | exact ((((B0.out.next Hw.out B0.out.size)).setCell (p := ⟨w.heap.size + 1, 0, none⟩) (Nat.le_succ _) _).setCell (p := ⟨w.heap.size + 1, 1, none⟩) (Nat.le_succ _) _) | exact ((((below_drewN (B0.out.next Hw.out B0.out.size) _)).setCell (p := ⟨w.heap.size + 1, 0, none⟩) (Nat.le_succ _) _).setCell (p := ⟨w.heap.size + 1, 1, none⟩) (Nat.le_succ _) _).drew | exact ((((below_drewN (B0.out.next Hw.out B0.out.size) _)).setCell (p := ⟨w.heap.size + 1, 0, none⟩) (Nat.le_succ _) _).setCell (p := ⟨w.heap.size + 1, 1, none⟩) (Nat.le_succ _) _) | exact (((((B0.out.next Hw.out B0.out.size)).setCell (p := ⟨w.heap.size + 1, 0, none⟩) (Nat.le_succ _) _).setCell (p := ⟨w.heap.size + 1, 1, none⟩) (Nat.le_succ _) _).alloc (Below.size ((((B0.out.next Hw.out B0.out.size)).setCell (p := ⟨w.heap.size + 1, 0, none⟩) (Nat.le_succ _) _).setCell (p := ⟨w.heap.size + 1, 1, none⟩) (Nat.le_succ _) _)) _).drew | exact (((((B0.out.next Hw.out B0.out.size)).setCell (p := ⟨w.heap.size + 1, 0, none⟩) (Nat.le_succ _) _).setCell (p := ⟨w.heap.size + 1, 1, none⟩) (Nat.le_succ _) _).alloc (Below.size ((((B0.out.next Hw.out B0.out.size)).setCell (p := ⟨w.heap.size + 1, 0, none⟩) (Nat.le_succ _) _).setCell (p := ⟨w.heap.size + 1, 1, none⟩) (Nat.le_succ _) _)) _) | exact (((((below_drewN (B0.out.next Hw.out B0.out.size) _)).setCell (p := ⟨w.heap.size + 1, 0, none⟩) (Nat.le_succ _) _).setCell (p := ⟨w.heap.size + 1, 1, none⟩) (Nat.le_succ _) _).alloc (Below.size ((((below_drewN (B0.out.next Hw.out B0.out.size) _)).setCell (p := ⟨w.heap.size + 1, 0, none⟩) (Nat.le_succ _) _).setCell (p := ⟨w.heap.size + 1, 1, none⟩) (Nat.le_succ _) _)) _).drew | exact (((((below_drewN (B0.out.next Hw.out B0.out.size) _)).setCell (p := ⟨w.heap.size + 1, 0, none⟩) (Nat.le_succ _) _).setCell (p := ⟨w.heap.size + 1, 1, none⟩) (Nat.le_succ _) _).alloc (Below.size ((((below_drewN (B0.out.next Hw.out B0.out.size) _)).setCell (p := ⟨w.heap.size + 1, 0, none⟩) (Nat.le_succ _) _).setCell (p := ⟨w.heap.size + 1, 1, none⟩) (Nat.le_succ _) _)) _))
                · have Hend := Lib.hid (recAt_end Hat.out (fun k => recF_none (Hf1.out he)))
                  have b1 : (er != 0) = true := by simpa using he
                  clear Hf0 Hf1 Hf2 he
                  go_wp2
                  go_quiet (fail)
                  go_wp2_with (go_at_call 51; (with_reducible refine (HD.out _ _ _ _ ?ht ?hn ?hb).mono ?_); (case ht => exact HTr.out.bsame ((Same.refl All wr).drewN _) ⟨trivial, trivial, trivial⟩); (case hn => (have := HXl.out; omega)); (case hb => exact HX.out.bsame ((Same.refl _ _).drewN _)); rintro e w2 ⟨D1, dd, rfl, hdc, hs2, hb2⟩; have h4d : 4 ≤ dd := (by have := Hdl.out; omega); have hdb := hs2 (by rw [Hdl.out]; omega); obtain ⟨db, dof, rfl, _⟩ := hdb; have hwr2 : Below wr.heap.size wr w2 := (below_drewN (Below.refl wr.heap.size wr) _).next hb2 (Nat.le_refl _); have hw02 : Below w0.heap.size w0 w2 := Hbel.out.next hwr2 Hbel.out.size; have hy2 : wr.heap.size ≤ w2.heap.size := hwr2.size; have Ho := Lib.hid (Own.below cmR_stays Hown.out hwr2); obtain ⟨x0, x1, _, _⟩ := box2 ((hw02.block G hG0).trans X0.out); obtain ⟨g0, g1, f0, f1⟩ := box2 ((hw02.block (w.heap.size + 1) (by omega)).trans R0.out); have hz9 : w0.heap.size ≤ w2.heap.size := hw02.size; have hl1 : w.heap.size + 1 < w2.heap.size := (by omega); have hGl : G < w2.heap.size := (by omega); have Hw := Lib.hid hw02)
                  go_quiet ((go_at_call 57; exact Calls.quiet_of (HS.out _ _ _ _ _ _ (by omega) ((bs_topT (SL.bz hs2) 4).bsame ((Same.refl _ _).drewN _)) ((HY.out.bbelow hwr2).bsame ((Same.refl _ _).drewN _)))))
                  go_wp2_with (go_at_call 58; (with_reducible refine (HC.out _ _ _ _ ?hn ?hc ?hb).mono ?_); (case hn => (have := HRl.out; omega)); (case hc => omega); (case hb => exact (HR.out.bbelow hwr2).bsame ((Same.refl _ _).drewN _)); rintro e w3 ⟨A3, n3, rfl, hs3, hb3⟩; have h23 : Below w2.heap.size w2 w3 := (below_drewN (Below.refl w2.heap.size w2) _).next hb3 (Nat.le_refl _); have hw03 : Below w0.heap.size w0 w3 := hw02.next h23 hw02.size; have hy3 : w2.heap.size ≤ w3.heap.size := h23.size; have Ho2 := Ho; have Ho := Lib.hid (Own.below cmR_stays Ho2.out h23); have hs3' : Ws (From w2.heap.size) w3 A3 x.2 := hs3; obtain ⟨x0, x1, _, _⟩ := box2 ((hw03.block G hG0).trans X0.out); obtain ⟨g0, g1, f0, f1⟩ := box2 ((hw03.block (w.heap.size + 1) (by omega)).trans R0.out); have hz9 : w0.heap.size ≤ w3.heap.size := hw03.size; have hl1 : w.heap.size + 1 < w3.heap.size := (by omega); have hGl : G < w3.heap.size := (by omega); have Hw := Lib.hid hw03)
                  all_goals
                    go_region
                  all_goals
                    go_wp2
                    refine bodyPost_ret (v := .tuple #[.slice VA done.length vc, .agg #[.slice (some ⟨g, 0, none⟩) p p, .int .i64 (min t.2 (p : Int))], .int .i64 0]) (by simp [results, Tryd.results23, go_sem, g0, g1, f0, f1, hl1]) rfl ?_
                    exact rec_fin (R := w.heap.size + 1) (by rw [Hv.out, Hend.out]) hpl (by omega) (by omega) HA0.out Hw.out Ho.out (by first | exact (((Same.refl (fun b => b ≠ w.heap.size + 1) _).setCell (p := ⟨w.heap.size + 1, 0, none⟩) (show ¬ (w.heap.size + 1 ≠ w.heap.size + 1) from fun h => h rfl) _).setCell (p := ⟨w.heap.size + 1, 1, none⟩) (show ¬ (w.heap.size + 1 ≠ w.heap.size + 1) from fun h => h rfl) _).drew | exact (((Same.refl (fun b => b ≠ w.heap.size + 1) _).setCell (p := ⟨w.heap.size + 1, 0, none⟩) (show ¬ (w.heap.size + 1 ≠ w.heap.size + 1) from fun h => h rfl) _).setCell (p := ⟨w.heap.size + 1, 1, none⟩) (show ¬ (w.heap.size + 1 ≠ w.heap.size + 1) from fun h => h rfl) _) | exact ((((Same.refl (fun b => b ≠ w.heap.size + 1) _).drewN _).setCell (p := ⟨w.heap.size + 1, 0, none⟩) (show ¬ (w.heap.size + 1 ≠ w.heap.size + 1) from fun h => h rfl) _).setCell (p := ⟨w.heap.size + 1, 1, none⟩) (show ¬ (w.heap.size + 1 ≠ w.heap.size + 1) from fun h => h rfl) _).drew | exact ((((Same.refl (fun b => b ≠ w.heap.size + 1) _).drewN _).setCell (p := ⟨w.heap.size + 1, 0, none⟩) (show ¬ (w.heap.size + 1 ≠ w.heap.size + 1) from fun h => h rfl) _).setCell (p := ⟨w.heap.size + 1, 1, none⟩) (show ¬ (w.heap.size + 1 ≠ w.heap.size + 1) from fun h => h rfl) _) | exact ((((Same.refl (fun b => b ≠ w.heap.size + 1) _).setCell (p := ⟨w.heap.size + 1, 0, none⟩) (show ¬ (w.heap.size + 1 ≠ w.heap.size + 1) from fun h => h rfl) _).setCell (p := ⟨w.heap.size + 1, 1, none⟩) (show ¬ (w.heap.size + 1 ≠ w.heap.size + 1) from fun h => h rfl) _).alloc _).drew | exact ((((Same.refl (fun b => b ≠ w.heap.size + 1) _).setCell (p := ⟨w.heap.size + 1, 0, none⟩) (show ¬ (w.heap.size + 1 ≠ w.heap.size + 1) from fun h => h rfl) _).setCell (p := ⟨w.heap.size + 1, 1, none⟩) (show ¬ (w.heap.size + 1 ≠ w.heap.size + 1) from fun h => h rfl) _).alloc _) | exact (((((Same.refl (fun b => b ≠ w.heap.size + 1) _).drewN _).setCell (p := ⟨w.heap.size + 1, 0, none⟩) (show ¬ (w.heap.size + 1 ≠ w.heap.size + 1) from fun h => h rfl) _).setCell (p := ⟨w.heap.size + 1, 1, none⟩) (show ¬ (w.heap.size + 1 ≠ w.heap.size + 1) from fun h => h rfl) _).alloc _).drew | exact (((((Same.refl (fun b => b ≠ w.heap.size + 1) _).drewN _).setCell (p := ⟨w.heap.size + 1, 0, none⟩) (show ¬ (w.heap.size + 1 ≠ w.heap.size + 1) from fun h => h rfl) _).setCell (p := ⟨w.heap.size + 1, 1, none⟩) (show ¬ (w.heap.size + 1 ≠ w.heap.size + 1) from fun h => h rfl) _).alloc _)) (by first | exact ((((B0.out.next Hw.out B0.out.size)).setCell (p := ⟨w.heap.size + 1, 0, none⟩) (Nat.le_succ _) _).setCell (p := ⟨w.heap.size + 1, 1, none⟩) (Nat.le_succ _) _).drew | exact ((((B0.out.next Hw.out B0.out.size)).setCell (p := ⟨w.heap.size + 1, 0, none⟩) (Nat.le_succ _) _).setCell (p := ⟨w.heap.size + 1, 1, none⟩) (Nat.le_succ _) _) | exact ((((below_drewN (B0.out.next Hw.out B0.out.size) _)).setCell (p := ⟨w.heap.size + 1, 0, none⟩) (Nat.le_succ _) _).setCell (p := ⟨w.heap.size + 1, 1, none⟩) (Nat.le_succ _) _).drew | exact ((((below_drewN (B0.out.next Hw.out B0.out.size) _)).setCell (p := ⟨w.heap.size + 1, 0, none⟩) (Nat.le_succ _) _).setCell (p := ⟨w.heap.size + 1, 1, none⟩) (Nat.le_succ _) _) | exact (((((B0.out.next Hw.out B0.out.size)).setCell (p := ⟨w.heap.size + 1, 0, none⟩) (Nat.le_succ _) _).setCell (p := ⟨w.heap.size + 1, 1, none⟩) (Nat.le_succ _) _).alloc (Below.size ((((B0.out.next Hw.out B0.out.size)).setCell (p := ⟨w.heap.size + 1, 0, none⟩) (Nat.le_succ _) _).setCell (p := ⟨w.heap.size + 1, 1, none⟩) (Nat.le_succ _) _)) _).drew | exact (((((B0.out.next Hw.out B0.out.size)).setCell (p := ⟨w.heap.size + 1, 0, none⟩) (Nat.le_succ _) _).setCell (p := ⟨w.heap.size + 1, 1, none⟩) (Nat.le_succ _) _).alloc (Below.size ((((B0.out.next Hw.out B0.out.size)).setCell (p := ⟨w.heap.size + 1, 0, none⟩) (Nat.le_succ _) _).setCell (p := ⟨w.heap.size + 1, 1, none⟩) (Nat.le_succ _) _)) _) | exact (((((below_drewN (B0.out.next Hw.out B0.out.size) _)).setCell (p := ⟨w.heap.size + 1, 0, none⟩) (Nat.le_succ _) _).setCell (p := ⟨w.heap.size + 1, 1, none⟩) (Nat.le_succ _) _).alloc (Below.size ((((below_drewN (B0.out.next Hw.out B0.out.size) _)).setCell (p := ⟨w.heap.size + 1, 0, none⟩) (Nat.le_succ _) _).setCell (p := ⟨w.heap.size + 1, 1, none⟩) (Nat.le_succ _) _)) _).drew | exact (((((below_drewN (B0.out.next Hw.out B0.out.size) _)).setCell (p := ⟨w.heap.size + 1, 0, none⟩) (Nat.le_succ _) _).setCell (p := ⟨w.heap.size + 1, 1, none⟩) (Nat.le_succ _) _).alloc (Below.size ((((below_drewN (B0.out.next Hw.out B0.out.size) _)).setCell (p := ⟨w.heap.size + 1, 0, none⟩) (Nat.le_succ _) _).setCell (p := ⟨w.heap.size + 1, 1, none⟩) (Nat.le_succ _) _)) _))
  · have Hv := Lib.hid (show recS t = (([], ([], 0)), 6) by unfold recS; rw [if_pos hm])
    have Hm := Lib.hid hm
    clear hm
    go_enter Tryd.func23, Tryd.ntmps23
    go_wp2_with (go_at_call 49; (with_reducible refine (tapeOpen_no _ A t c Hm.out).mono ?_); rintro e w1 ⟨A1, c1, rfl, _, _, hb1⟩; have g0 : w1.cell? ⟨w.heap.size + 1, 0, none⟩ = some (.slice none 0 0) := (hb1.cell (by first | (simp; done) | omega | (simp; omega))).trans (by simp); have g1 : w1.cell? ⟨w.heap.size + 1, 1, none⟩ = some (.int .i64 0) := (hb1.cell (by first | (simp; done) | omega | (simp; omega))).trans (by simp); have f0 : w1.frozen? ⟨w.heap.size + 1, 0, none⟩ = false := (hb1.frozen (by first | (simp; done) | omega | (simp; omega))).trans (by simp); have f1 : w1.frozen? ⟨w.heap.size + 1, 1, none⟩ = false := (hb1.frozen (by first | (simp; done) | omega | (simp; omega))).trans (by simp); have hlt : w.heap.size + 1 < w1.heap.size := (by have := hb1.size; simp at this; omega))
    refine bodyPost_ret (v := .tuple #[.slice none 0 0, .agg #[.slice none 0 0, .int .i64 0], .int .i64 6]) (by simp [results, Tryd.results23, go_sem, g0, g1, f0, f1, hlt]) rfl ?_
    rw [Hv.out]
    refine ⟨.slice none 0 0, none, 0, rfl, Nat.le_refl _, Own.nil _ _ _, SL.nil, ?_⟩
    have hq9 := ((Below.next (((Below.refl w.heap.size w).alloc (Nat.le_refl _) _).alloc (by simp) _) hb1 (by simp; omega)).setCell (p := ⟨w.heap.size + 1, 0, none⟩) (by simp) (.slice none 0 0)).setCell (p := ⟨w.heap.size + 1, 1, none⟩) (by simp) (.int .i64 0)
    exact hq9.alloc hq9.size _
end Go.Proofs.YteacjkihjeiafaaDoor
