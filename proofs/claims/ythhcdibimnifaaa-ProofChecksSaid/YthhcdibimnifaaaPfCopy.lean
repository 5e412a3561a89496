/- Walk: proofs (a proof in memory of its own). -/
import Derived.Test.YthhcdibimnifaaaPfChk0
import Derived.Test.YthhcdibimnifaaaPairOf
namespace Go.Proofs.Ythhcdibimnifaaa
open Go.RowKit
set_option linter.unusedVariables false
set_option linter.unusedSimpArgs false

theorem info_st : (Try.prog.info? 149).map (fun i => (i.zero, i.size, i.bytes)) = some (some (.agg #[.int .i64 0, .bool false, .slice none 0 0]), 3, 40) := by kernel_rfl
theorem two_new (w : World) (a b : Obj) : ((w.alloc a).alloc b).heap[w.heap.size]? = some a ∧ ((w.alloc a).alloc b).heap[w.heap.size + 1]? = some b ∧ ((w.alloc a).alloc b).heap.size = w.heap.size + 2 ∧ Below w.heap.size w ((w.alloc a).alloc b) := by
  refine ⟨?_, ?_, by simp, ((Below.refl _ _).alloc (Nat.le_refl _) _).alloc (by simp) _⟩
  · rw [heap_alloc_old _ _ (by simp), heap_alloc_new]
  · have := heap_alloc_new (w.alloc a) b
    simpa using this
theorem Same.of_less {S : Nat → Prop} {n : Nat} {w w' : World} (h : Below n w w') (hS : ∀ k, S k → k < n) : Same S w w' := ⟨h.size, fun k hk _ => h.block k (hS k hk)⟩
theorem st_fresh {n base : Nat} {w W : World} {v : Value} {A : Option Addr} {x : St} {a : Nat} (h1 : Bs (From n) w A x.other) (g1 : x.other.length ≤ big) (hs : Same (From n) w W) (hb : base ≤ n) (hap : ∀ b, From n b → v.ownBlock ≠ some b) :
    StR (fun b => From base b ∧ v.ownBlock ≠ some b) W [.int .i64 x.bit, .bool x.right, .slice A x.other.length a] x :=
  ⟨A, a, rfl, (h1.bsame hs).bless fun b _ h => ⟨Nat.le_trans hb h, hap b h⟩, g1⟩
theorem Own.same_from3 {α : Type} {size : Nat} {R : (Nat → Prop) → World → List Value → α → Prop} {w w' : World} {base : Nat} {e : TypeId} {v : Value} {l : List α} (hR : Stays R) (h : Own size R (From base) w base e v l) (hb : Same (From base) w w') : Own size R (From base) w' base e v l := by
  obtain ⟨xs, h1, h2⟩ := h
  refine ⟨xs, ⟨h1.1, ?_⟩, fun i hi => ?_⟩
  · rcases h1.2 with hn | ⟨g, cap, cur, hv', hb', hh, rest⟩
    · exact .inl hn
    · refine .inr ⟨g, cap, cur, hv', hb', ?_, rest⟩
      rw [hb.block g hb' (Array.getElem?_eq_some_iff.1 hh).1]
      exact hh
  · have h3 := hR.less _ (fun b => (From base b ∧ v.ownBlock ≠ some b) ∧ From base b) w _ _ (fun b hb2 hs => ⟨hs, hs.1⟩) (h2 i hi)
    have h4 := hR.same _ w w' _ _ ⟨hb.size, fun k hk hk2 => hb.block k hk.2 hk2⟩ h3
    exact hR.less _ _ _ _ _ (fun b _ hs => hs.1) h4
/-- The call returns a proof that reads as p, in memory of its own. -/
def RetPf (w : World) (p : Pf) (e : Ending) (w' : World) : Prop :=
  ∃ A n K a V b, e = .returned (.agg #[.bool p.empty, .slice A p.steps.length n, .slice K p.pair.1.length a, .slice V p.pair.2.length b]) ∧ Sts (From w.heap.size) w' A p.steps ∧ Bs (From w.heap.size) w' K p.pair.1 ∧ Bs (From w.heap.size) w' V p.pair.2 ∧ Below w.heap.size w w'
/-- The variable 'out' at block G. -/
structure PfAt (w : World) (A K V K1 V1 : Option Addr) (n a b k1 v1 : Nat) (p : Pf) (W : World) (G : Nat) : Prop where
  x : W.heap[w.heap.size]? = some (.cells #[.bool p.empty, .slice A p.steps.length n, .slice K p.pair.1.length a, .slice V p.pair.2.length b] 105 (0, 0))
  y : W.heap[w.heap.size + 1]? = some (.cells #[.bool false, .slice none 0 0, .slice none 0 0, .slice none 0 0] 105 (0, 0))
  z : W.heap[G]? = some (.cells #[.bool p.empty, .slice none 0 0, .slice K1 p.pair.1.length k1, .slice V1 p.pair.2.length v1] 105 (0, 0))
  lo : w.heap.size + 2 ≤ G
  hi : G < W.heap.size
  b : Below w.heap.size w W
  k : Bs (fun b => w.heap.size + 2 ≤ b ∧ b ≠ G) W K1 p.pair.1
  v : Bs (fun b => w.heap.size + 2 ≤ b ∧ b ≠ G) W V1 p.pair.2

set_option maxRecDepth 100000 in
set_option maxHeartbeats 8000000 in
theorem proofs_ok (w : World) (A K V : Option Addr) (p : Pf) (n a b : Nat) (ha : Sts All w A p.steps) (hK : Bs All w K p.pair.1) (hV : Bs All w V p.pair.2) (hst : p.steps.length * 40 ≤ 140737488355328) (hl1 : p.pair.1.length ≤ big) (hl2 : p.pair.2.length ≤ big) :
    Calls Try.prog 79 #[.agg #[.bool p.empty, .slice A p.steps.length n, .slice K p.pair.1.length a, .slice V p.pair.2.length b]] w (RetPf w p) := by
  obtain ⟨i0, hi0, hz0, hz1, hz2⟩ := info_parts info_st
  have Ha := Lib.hid ha
  have HK := Lib.hid hK
  have HV := Lib.hid hV
  clear ha hK hV
  obtain ⟨hx, hy, hsz, hbl⟩ := two_new w (.cells #[.bool p.empty, .slice A p.steps.length n, .slice K p.pair.1.length a, .slice V p.pair.2.length b] 105) (.cells #[.bool false, .slice none 0 0, .slice none 0 0, .slice none 0 0] 105)
  obtain ⟨g0, g1, g2, g3, _⟩ := box4p hx
  have Hx := Lib.hid hx
  have Hy := Lib.hid hy
  have Hbl := Lib.hid hbl
  have Hz2 := Lib.hid (show (((w.alloc (.cells #[.bool p.empty, .slice A p.steps.length n, .slice K p.pair.1.length a, .slice V p.pair.2.length b] 105)).alloc (.cells #[.bool false, .slice none 0 0, .slice none 0 0, .slice none 0 0] 105)).drew.alloc (.cells #[.bool false, .slice none 0 0, .slice none 0 0, .slice none 0 0] 105)).heap[w.heap.size + 2]? = some (.cells #[.bool false, .slice none 0 0, .slice none 0 0, .slice none 0 0] 105) by have := heap_alloc_new ((w.alloc (.cells #[.bool p.empty, .slice A p.steps.length n, .slice K p.pair.1.length a, .slice V p.pair.2.length b] 105)).alloc (.cells #[.bool false, .slice none 0 0, .slice none 0 0, .slice none 0 0] 105)).drew (.cells #[.bool false, .slice none 0 0, .slice none 0 0, .slice none 0 0] 105); simpa using this)
  clear hx hy hbl hsz
  go_enter Try.func79, Try.ntmps79
  go_wp2_with fail
  go_region_held3 (fun w' => w'.cell? ⟨w.heap.size, 0, none⟩ = some (.bool p.empty) ∧ w'.cell? ⟨w.heap.size, 2, none⟩ = some (.slice K p.pair.1.length a) ∧ w'.cell? ⟨w.heap.size, 3, none⟩ = some (.slice V p.pair.2.length b))
    (first
      | go_keep
      | exact ⟨q0, q2, q3⟩
      | (exact ⟨((World.cell?_setCell_far _ _ _ _ (by simp only []; omega)).trans ((World.cell?_setCell_far _ _ _ _ (by simp only []; omega)).trans ((World.cell?_setCell_far _ _ _ _ (by simp only []; omega)).trans ((World.cell?_setCell_far _ _ _ _ (by simp only []; omega)).trans q0)))), ((World.cell?_setCell_far _ _ _ _ (by simp only []; omega)).trans ((World.cell?_setCell_far _ _ _ _ (by simp only []; omega)).trans ((World.cell?_setCell_far _ _ _ _ (by simp only []; omega)).trans ((World.cell?_setCell_far _ _ _ _ (by simp only []; omega)).trans q2)))), ((World.cell?_setCell_far _ _ _ _ (by simp only []; omega)).trans ((World.cell?_setCell_far _ _ _ _ (by simp only []; omega)).trans ((World.cell?_setCell_far _ _ _ _ (by simp only []; omega)).trans ((World.cell?_setCell_far _ _ _ _ (by simp only []; omega)).trans q3))))⟩))
    ((go_at_call 34; (with_reducible refine (pairOf_ok _ K V p.pair a b ?hx ?hy hl1 hl2).mono ?_); (case hx => (refine (HK.out.bbelow Hbl.out).bsame ?_; repeat' (first | exact Same.refl _ _ | assumption | refine Same.drew ?_ | refine Same.drewN ?_ _ | refine Same.alloc ?_ _ | refine Same.setCell ?_ (fun hq => by simp only [From] at hq; first | omega | (simp at hq; done) | (simp at hq; omega)) _))); (case hy => (refine (HV.out.bbelow Hbl.out).bsame ?_; repeat' (first | exact Same.refl _ _ | assumption | refine Same.drew ?_ | refine Same.drewN ?_ _ | refine Same.alloc ?_ _ | refine Same.setCell ?_ (fun hq => by simp only [From] at hq; first | omega | (simp at hq; done) | (simp at hq; omega)) _))); rintro e w1 ⟨K1, k1, V1, v1, rfl, hs1, hs2, hb1⟩; have hx1 : w1.heap[w.heap.size]? = some (.cells #[.bool p.empty, .slice A p.steps.length n, .slice K p.pair.1.length a, .slice V p.pair.2.length b] 105 (0, 0)) := (hb1.block w.heap.size (by first | (simp; done) | omega | (simp; omega))).trans (by first | exact Hx.out | exact (heap_alloc_old _ _ (by first | (simp; done) | omega | (simp; omega))).trans Hx.out); have hy1 : w1.heap[w.heap.size + 1]? = some (.cells #[.bool false, .slice none 0 0, .slice none 0 0, .slice none 0 0] 105 (0, 0)) := (hb1.block (w.heap.size + 1) (by first | (simp; done) | omega | (simp; omega))).trans (by first | exact Hy.out | exact (heap_alloc_old _ _ (by first | (simp; done) | omega | (simp; omega))).trans Hy.out); obtain ⟨q0, q1, q2, q3, _⟩ := box4p hx1; have hzp : w.heap.size < w1.heap.size := (by have hq1 := hb1.size; simp at hq1; omega); (try (have hz2 : w1.heap[w.heap.size + 2]? = some (.cells #[.bool false, .slice none 0 0, .slice none 0 0, .slice none 0 0] 105 (0, 0)) := (hb1.block (w.heap.size + 2) (by first | (simp; done) | omega | (simp; omega))).trans Hz2.out; obtain ⟨e0, e1, e2, e3, e4, e5, e6, e7⟩ := box4p hz2; have hzl : w.heap.size + 1 + 1 < w1.heap.size := (by have hq1 := hb1.size; simp at hq1; omega)))))
  · go_wp2_with fail
    have hF : PfAt w A K V K1 V1 n a b k1 v1 p (w1.alloc (.cells #[.bool p.empty, .slice none 0 0, .slice K1 p.pair.1.length k1, .slice V1 p.pair.2.length v1] 105)) w1.heap.size := by
      have hq1 := hb1.size
      simp at hq1
      refine ⟨(heap_alloc_old _ _ hzp).trans hx1, (heap_alloc_old _ _ (by omega)).trans hy1, box_new w1 _ _, by omega, by simp, ?_, ?_, ?_⟩
      · exact (Hbl.out.drew.next hb1 (by first | (simp; done) | omega | (simp; omega))).alloc (by omega) _
      · exact ((hs1.bless (S' := fun b => w.heap.size + 2 ≤ b ∧ b ≠ w1.heap.size) fun b hb h => ⟨by simp only [From] at h; simp at h; omega, by omega⟩).bsame ((Same.refl _ _).alloc _))
      · exact ((hs2.bless (S' := fun b => w.heap.size + 2 ≤ b ∧ b ≠ w1.heap.size) fun b hb h => ⟨by simp only [From] at h; simp at h; omega, by omega⟩).bsame ((Same.refl _ _).alloc _))
    have HF := Lib.hid hF
    clear hF hb1 hs1 hs2 hx1 hy1 q0 q1 q2 q3 hzp
    generalize w1.alloc (.cells #[.bool p.empty, .slice none 0 0, .slice K1 p.pair.1.length k1, .slice V1 p.pair.2.length v1] 105) = W0 at *
    generalize w1.heap.size = G at *
    have hlo := HF.out.lo
    have hhi := HF.out.hi
    clear g0 g1 g2 g3
    go_loopw [4] (fun i wr => ∃ (k : Nat) (v : Value), k ≤ p.steps.length ∧ i = .int .i64 k ∧ Own 3 StR (From W0.heap.size) wr W0.heap.size 149 v (p.steps.take k) ∧ wr.heap[G]? = some (.cells #[.bool p.empty, v, .slice K1 p.pair.1.length k1, .slice V1 p.pair.2.length v1] 105 (0, 0)) ∧ Below w.heap.size W0 wr ∧ Same (fun b => b < W0.heap.size ∧ b ≠ G) W0 wr) (fun i _ => p.steps.length - (intOf i).toNat)
    case atStart => exact ⟨0, _, by omega, rfl, Own.nil _ _ _, HF.out.z, Below.refl _ _, Same.refl _ _⟩
    case round =>
      obtain ⟨k, v, hk, rfl, hown, hcx, hbel, hsm⟩ := hrel
      have Hbel := Lib.hid hbel
      have Hown := Lib.hid hown
      have Hcx := Lib.hid hcx
      have Hsm := Lib.hid hsm
      have hbz := hbel.size
      have Hbw := Lib.hid (HF.out.b.trans hbel)
      obtain ⟨g0, g1, g2, g3, _⟩ := box4p ((hsm.block w.heap.size ⟨by omega, by omega⟩ (by omega)).trans HF.out.x)
      clear hown hbel hcx hsm
      by_cases hlt : k < p.steps.length
      · obtain ⟨g, off, B, c, rfl, _, hal, hc1, hc2, hc3, hs1, hb1⟩ := sts_at (Ha.out.below stR_stays Hbw.out) hlt
        have Hsn := Lib.hid (take_snoc p.steps k hlt)
        have hl8 : (p.steps.take k ++ [p.steps[k]]).length = k + 1 := by rw [List.length_append, List.length_take, List.length_singleton]; omega
        generalize p.steps[k] = x at *
        have Hs1 := Lib.hid hs1.bz
        have hGr : G < wr.heap.size := by omega
        clear hs1
        go_wp2_with (first
          | (go_at_call 25; (with_reducible refine (octets_ok _ B x.other c ?h1 hb1).mono ?_); (case h1 => exact Hs1.out.bsame (by repeat' (first | exact Same.refl _ _ | assumption | refine Same.drew ?_ | refine Same.drewN ?_ _ | refine Same.alloc ?_ _ | refine Same.setCell ?_ (fun hq => by simp only [From] at hq; first | omega | (simp at hq; done) | (simp at hq; omega)) _))); rintro e w6 ⟨A6, c6, rfl, gs6, hbw6⟩; have hb6 : Below wr.heap.size wr w6 := ((Below.refl wr.heap.size wr).alloc (Nat.le_refl _) _).next hbw6 (by simp); have hz6 : wr.heap.size < w6.heap.size := (by have := hbw6.size; simp at this; omega); have Gs6 := Lib.hid gs6; obtain ⟨ge0, ge1, ge2, ge3, ge4, ge5⟩ := box3p ((hbw6.block wr.heap.size (by simp)).trans (box_new wr _ _)); have hbx6 := (hb6.block G hGr).trans Hcx.out; obtain ⟨ga0, ga1, ga2, ga3, _⟩ := box4p ((((Below.refl wr.heap.size w6).setCell (p := ⟨wr.heap.size, 2, none⟩) (Nat.le_refl _) (.slice A6 x.other.length c6)).block G hGr).trans hbx6); have Hbx6 := Lib.hid hbx6; clear gs6 hbx6)
          | (at_builtin; refine wpl_snoc stR_stays (S := From W0.heap.size) _ rfl _ _ _ rfl W0.heap.size 149 i0 _ 3 40 Try.underlying103 hi0 hz0 hz1 hz2 rfl (by decide) v (p.steps.take k) rfl ?hown _ _ [.int .i64 x.bit, .bool x.right, .slice A6 x.other.length c6] rfl rfl (new_src _ _ [.int .i64 x.bit, .bool x.right, .slice A6 x.other.length c6] _ (by simp)) (by simp [Value.oneCell']) ?hm ?hby ?hba x ?hd ?_; (case hown => (refine Own.below stR_stays Hown.out ?_; exact ((hb6.setCell (Nat.le_refl _) _).alloc (by simp; omega) _))); (case hm => (simp only [List.length_take, maxLen]; omega)); (case hby => (simp only [List.length_take]; omega)); (case hba => (simp; omega)); (case hd => (refine st_fresh (n := wr.heap.size + 1) (Gs6.out.blo (by simp)) hb1 ?_ (by omega) (fun b hb => Hown.out.apart wr.heap.size (Nat.le_refl _) b (by simp only [From] at hb ⊢; omega)); repeat' (first | exact Same.refl _ _ | assumption | refine Same.drew ?_ | refine Same.drewN ?_ _ | refine Same.alloc ?_ _ | refine Same.setCell ?_ (fun hq => by simp only [From] at hq; first | omega | (simp at hq; done) | (simp at hq; omega)) _))); intro v8 w8 hown8 hbw8; obtain ⟨A8, c8, rfl, _, _⟩ := hown8.readc stR_stays; have Hown8 := Lib.hid hown8; clear hown8; have hbx8 := (hbw8.block G (by omega)).trans ((heap_alloc_old _ _ (by simp; omega)).trans ((((Below.refl wr.heap.size w6).setCell (p := ⟨wr.heap.size, 2, none⟩) (Nat.le_refl _) (.slice A6 x.other.length c6)).block G hGr).trans Hbx6.out)); obtain ⟨gf0, gf1, gf2, gf3, gf4, gf5, gf6, gf7⟩ := box4p hbx8; have hzw8 := hbw8.size; simp at hzw8; have hz88 : G < w8.heap.size := (by omega)))
        go_roundw
        case rel => exact ⟨k + 1, _, by omega, by go_num, by rw [Hsn.out]; exact Own.same_from3 stR_stays Hown8.out ((Same.refl _ _).setCell (fun h => by simp only [From] at h; omega) _), by rw [heap_setCell_same _ _ _ _ _ _ hbx8, hl8]; rfl, (((Hbel.out.trans ((hb6.setCell (Nat.le_refl _) _).mono (by omega))).alloc (by simp; omega) _).trans (hbw8.mono (by omega))).setCell (by simp only []; omega) _, (((Hsm.out.trans (Same.of_below (hb6.setCell (Nat.le_refl _) _))).alloc _).trans (Same.of_less hbw8 (fun k h => h.1))).setCell (fun h => h.2 rfl) _⟩
        case measure => simp [intOf]; omega
      · obtain rfl : k = p.steps.length := by omega
        have hown3 := Hown.out
        rw [List.take_length] at hown3
        obtain ⟨A8, c8, rfl, hc8, hs8⟩ := hown3.readc stR_stays
        have Hs8 := Lib.hid hs8
        obtain ⟨ge0, ge1, ge2, ge3, _⟩ := box4p Hcx.out
        obtain ⟨gh0, gh1, gh2, gh3, gh4, gh5, gh6, gh7⟩ := box4p ((Hsm.out.block (w.heap.size + 1) ⟨by omega, by omega⟩ (by omega)).trans HF.out.y)
        have hzr : w.heap.size + 1 < wr.heap.size := by omega
        clear hown3 Hown hs8
        go_wp2
        refine bodyPost_ret (v := .agg #[.bool p.empty, .slice A8 p.steps.length c8, .slice K1 p.pair.1.length k1, .slice V1 p.pair.2.length v1]) (by simp [results, Try.results79, go_sem, gh0, gh1, gh2, gh3]) rfl ⟨A8, c8, K1, k1, V1, v1, rfl, ?_, ?_, ?_, ?_⟩
        · refine (Hs8.out.same stR_stays (((((Same.refl _ _).setCell (fun h => by simp only [From] at h; omega) _).setCell (fun h => by simp only [From] at h; omega) _).setCell (fun h => by simp only [From] at h; omega) _).setCell (fun h => by simp only [From] at h; omega) _)).less stR_stays (fun b _ h => by simp only [From] at *; omega)
        · refine (((HF.out.k.bless (S' := fun b => (w.heap.size + 2 ≤ b) ∧ (b < W0.heap.size ∧ b ≠ G)) fun b hb h => ⟨h.1, hb, h.2⟩).bsame ⟨Hsm.out.size, fun k hk hk2 => Hsm.out.block k hk.2 hk2⟩).bsame (((((Same.refl _ _).setCell (fun h => by have := h.1; simp only [] at this; omega) _).setCell (fun h => by have := h.1; simp only [] at this; omega) _).setCell (fun h => by have := h.1; simp only [] at this; omega) _).setCell (fun h => by have := h.1; simp only [] at this; omega) _)).bless (fun b _ h => by simp only [From] at *; omega)
        · refine (((HF.out.v.bless (S' := fun b => (w.heap.size + 2 ≤ b) ∧ (b < W0.heap.size ∧ b ≠ G)) fun b hb h => ⟨h.1, hb, h.2⟩).bsame ⟨Hsm.out.size, fun k hk hk2 => Hsm.out.block k hk.2 hk2⟩).bsame (((((Same.refl _ _).setCell (fun h => by have := h.1; simp only [] at this; omega) _).setCell (fun h => by have := h.1; simp only [] at this; omega) _).setCell (fun h => by have := h.1; simp only [] at this; omega) _).setCell (fun h => by have := h.1; simp only [] at this; omega) _)).bless (fun b _ h => by simp only [From] at *; omega)
        · exact ((((Hbw.out.setCell (by simp only []; omega) _).setCell (by simp only []; omega) _).setCell (by simp only []; omega) _).setCell (by simp only []; omega) _)
  · go_wp2_with fail
    have hF : PfAt w A K V K1 V1 n a b k1 v1 p ((((w1.setCell ⟨w.heap.size + 1 + 1, 0, none⟩ (.bool p.empty)).setCell ⟨w.heap.size + 1 + 1, 1, none⟩ (.slice none 0 0)).setCell ⟨w.heap.size + 1 + 1, 2, none⟩ (.slice K1 p.pair.1.length k1)).setCell ⟨w.heap.size + 1 + 1, 3, none⟩ (.slice V1 p.pair.2.length v1)) (w.heap.size + 1 + 1) := by
      have hq1 := hb1.size
      simp at hq1
      have hlw : Below (w.heap.size + 1 + 1) w1 ((((w1.setCell ⟨w.heap.size + 1 + 1, 0, none⟩ (.bool p.empty)).setCell ⟨w.heap.size + 1 + 1, 1, none⟩ (.slice none 0 0)).setCell ⟨w.heap.size + 1 + 1, 2, none⟩ (.slice K1 p.pair.1.length k1)).setCell ⟨w.heap.size + 1 + 1, 3, none⟩ (.slice V1 p.pair.2.length v1)) := (((((Below.refl (w.heap.size + 1 + 1) w1).setCell (p := ⟨w.heap.size + 1 + 1, 0, none⟩) (Nat.le_refl _) (.bool p.empty)).setCell (p := ⟨w.heap.size + 1 + 1, 1, none⟩) (Nat.le_refl _) (.slice none 0 0)).setCell (p := ⟨w.heap.size + 1 + 1, 2, none⟩) (Nat.le_refl _) (.slice K1 p.pair.1.length k1)).setCell (p := ⟨w.heap.size + 1 + 1, 3, none⟩) (Nat.le_refl _) (.slice V1 p.pair.2.length v1))
      have hsm : Same (fun b => w.heap.size + 2 ≤ b ∧ b ≠ w.heap.size + 1 + 1) w1 ((((w1.setCell ⟨w.heap.size + 1 + 1, 0, none⟩ (.bool p.empty)).setCell ⟨w.heap.size + 1 + 1, 1, none⟩ (.slice none 0 0)).setCell ⟨w.heap.size + 1 + 1, 2, none⟩ (.slice K1 p.pair.1.length k1)).setCell ⟨w.heap.size + 1 + 1, 3, none⟩ (.slice V1 p.pair.2.length v1)) := (((((Same.refl _ _).setCell (fun h => h.2 rfl) _).setCell (fun h => h.2 rfl) _).setCell (fun h => h.2 rfl) _).setCell (fun h => h.2 rfl) _)
      refine ⟨(hlw.block _ (by omega)).trans hx1, (hlw.block _ (by omega)).trans hy1, ?_, by omega, by simpa using hzl, ?_, ?_, ?_⟩
      · rw [heap_setCell_same _ _ _ _ _ _ (heap_setCell_same _ _ _ _ _ _ (heap_setCell_same _ _ _ _ _ _ (heap_setCell_same _ _ _ _ _ _ hz2)))]
        rfl
      · exact ((Hbl.out.drew.alloc (by first | (simp; done) | omega | (simp; omega)) _).next hb1 (by first | (simp; done) | omega | (simp; omega))).trans (hlw.mono (by omega))
      · exact ((hs1.bless (S' := fun b => w.heap.size + 2 ≤ b ∧ b ≠ w.heap.size + 1 + 1) fun b hb h => ⟨by simp only [From] at h; simp at h; omega, by simp only [From] at h; simp at h; omega⟩).bsame hsm)
      · exact ((hs2.bless (S' := fun b => w.heap.size + 2 ≤ b ∧ b ≠ w.heap.size + 1 + 1) fun b hb h => ⟨by simp only [From] at h; simp at h; omega, by simp only [From] at h; simp at h; omega⟩).bsame hsm)
    have HF := Lib.hid hF
    clear hF hb1 hs1 hs2 hx1 hy1 q0 q1 q2 q3 hzp hz2 hzl e0 e1 e2 e3 e4 e5 e6 e7
    generalize ((((w1.setCell ⟨w.heap.size + 1 + 1, 0, none⟩ (.bool p.empty)).setCell ⟨w.heap.size + 1 + 1, 1, none⟩ (.slice none 0 0)).setCell ⟨w.heap.size + 1 + 1, 2, none⟩ (.slice K1 p.pair.1.length k1)).setCell ⟨w.heap.size + 1 + 1, 3, none⟩ (.slice V1 p.pair.2.length v1)) = W0 at *
    obtain ⟨G, hG⟩ : ∃ G, G = w.heap.size + 1 + 1 := ⟨_, rfl⟩
    rw [← hG] at HF ⊢
    clear hG
    have hlo := HF.out.lo
    have hhi := HF.out.hi
    clear g0 g1 g2 g3
    go_loopw [4] (fun i wr => ∃ (k : Nat) (v : Value), k ≤ p.steps.length ∧ i = .int .i64 k ∧ Own 3 StR (From W0.heap.size) wr W0.heap.size 149 v (p.steps.take k) ∧ wr.heap[G]? = some (.cells #[.bool p.empty, v, .slice K1 p.pair.1.length k1, .slice V1 p.pair.2.length v1] 105 (0, 0)) ∧ Below w.heap.size W0 wr ∧ Same (fun b => b < W0.heap.size ∧ b ≠ G) W0 wr) (fun i _ => p.steps.length - (intOf i).toNat)
    case atStart => exact ⟨0, _, by omega, rfl, Own.nil _ _ _, HF.out.z, Below.refl _ _, Same.refl _ _⟩
    case round =>
      obtain ⟨k, v, hk, rfl, hown, hcx, hbel, hsm⟩ := hrel
      have Hbel := Lib.hid hbel
      have Hown := Lib.hid hown
      have Hcx := Lib.hid hcx
      have Hsm := Lib.hid hsm
      have hbz := hbel.size
      have Hbw := Lib.hid (HF.out.b.trans hbel)
      obtain ⟨g0, g1, g2, g3, _⟩ := box4p ((hsm.block w.heap.size ⟨by omega, by omega⟩ (by omega)).trans HF.out.x)
      clear hown hbel hcx hsm
      by_cases hlt : k < p.steps.length
      · obtain ⟨g, off, B, c, rfl, _, hal, hc1, hc2, hc3, hs1, hb1⟩ := sts_at (Ha.out.below stR_stays Hbw.out) hlt
        have Hsn := Lib.hid (take_snoc p.steps k hlt)
        have hl8 : (p.steps.take k ++ [p.steps[k]]).length = k + 1 := by rw [List.length_append, List.length_take, List.length_singleton]; omega
        generalize p.steps[k] = x at *
        have Hs1 := Lib.hid hs1.bz
        have hGr : G < wr.heap.size := by omega
        clear hs1
        go_wp2_with (first
          | (go_at_call 25; (with_reducible refine (octets_ok _ B x.other c ?h1 hb1).mono ?_); (case h1 => exact Hs1.out.bsame (by repeat' (first | exact Same.refl _ _ | assumption | refine Same.drew ?_ | refine Same.drewN ?_ _ | refine Same.alloc ?_ _ | refine Same.setCell ?_ (fun hq => by simp only [From] at hq; first | omega | (simp at hq; done) | (simp at hq; omega)) _))); rintro e w6 ⟨A6, c6, rfl, gs6, hbw6⟩; have hb6 : Below wr.heap.size wr w6 := ((Below.refl wr.heap.size wr).alloc (Nat.le_refl _) _).next hbw6 (by simp); have hz6 : wr.heap.size < w6.heap.size := (by have := hbw6.size; simp at this; omega); have Gs6 := Lib.hid gs6; obtain ⟨ge0, ge1, ge2, ge3, ge4, ge5⟩ := box3p ((hbw6.block wr.heap.size (by simp)).trans (box_new wr _ _)); have hbx6 := (hb6.block G hGr).trans Hcx.out; obtain ⟨ga0, ga1, ga2, ga3, _⟩ := box4p ((((Below.refl wr.heap.size w6).setCell (p := ⟨wr.heap.size, 2, none⟩) (Nat.le_refl _) (.slice A6 x.other.length c6)).block G hGr).trans hbx6); have Hbx6 := Lib.hid hbx6; clear gs6 hbx6)
          | (at_builtin; refine wpl_snoc stR_stays (S := From W0.heap.size) _ rfl _ _ _ rfl W0.heap.size 149 i0 _ 3 40 Try.underlying103 hi0 hz0 hz1 hz2 rfl (by decide) v (p.steps.take k) rfl ?hown _ _ [.int .i64 x.bit, .bool x.right, .slice A6 x.other.length c6] rfl rfl (new_src _ _ [.int .i64 x.bit, .bool x.right, .slice A6 x.other.length c6] _ (by simp)) (by simp [Value.oneCell']) ?hm ?hby ?hba x ?hd ?_; (case hown => (refine Own.below stR_stays Hown.out ?_; exact ((hb6.setCell (Nat.le_refl _) _).alloc (by simp; omega) _))); (case hm => (simp only [List.length_take, maxLen]; omega)); (case hby => (simp only [List.length_take]; omega)); (case hba => (simp; omega)); (case hd => (refine st_fresh (n := wr.heap.size + 1) (Gs6.out.blo (by simp)) hb1 ?_ (by omega) (fun b hb => Hown.out.apart wr.heap.size (Nat.le_refl _) b (by simp only [From] at hb ⊢; omega)); repeat' (first | exact Same.refl _ _ | assumption | refine Same.drew ?_ | refine Same.drewN ?_ _ | refine Same.alloc ?_ _ | refine Same.setCell ?_ (fun hq => by simp only [From] at hq; first | omega | (simp at hq; done) | (simp at hq; omega)) _))); intro v8 w8 hown8 hbw8; obtain ⟨A8, c8, rfl, _, _⟩ := hown8.readc stR_stays; have Hown8 := Lib.hid hown8; clear hown8; have hbx8 := (hbw8.block G (by omega)).trans ((heap_alloc_old _ _ (by simp; omega)).trans ((((Below.refl wr.heap.size w6).setCell (p := ⟨wr.heap.size, 2, none⟩) (Nat.le_refl _) (.slice A6 x.other.length c6)).block G hGr).trans Hbx6.out)); obtain ⟨gf0, gf1, gf2, gf3, gf4, gf5, gf6, gf7⟩ := box4p hbx8; have hzw8 := hbw8.size; simp at hzw8; have hz88 : G < w8.heap.size := (by omega)))
        go_roundw
        case rel => exact ⟨k + 1, _, by omega, by go_num, by rw [Hsn.out]; exact Own.same_from3 stR_stays Hown8.out ((Same.refl _ _).setCell (fun h => by simp only [From] at h; omega) _), by rw [heap_setCell_same _ _ _ _ _ _ hbx8, hl8]; rfl, (((Hbel.out.trans ((hb6.setCell (Nat.le_refl _) _).mono (by omega))).alloc (by simp; omega) _).trans (hbw8.mono (by omega))).setCell (by simp only []; omega) _, (((Hsm.out.trans (Same.of_below (hb6.setCell (Nat.le_refl _) _))).alloc _).trans (Same.of_less hbw8 (fun k h => h.1))).setCell (fun h => h.2 rfl) _⟩
        case measure => simp [intOf]; omega
      · obtain rfl : k = p.steps.length := by omega
        have hown3 := Hown.out
        rw [List.take_length] at hown3
        obtain ⟨A8, c8, rfl, hc8, hs8⟩ := hown3.readc stR_stays
        have Hs8 := Lib.hid hs8
        obtain ⟨ge0, ge1, ge2, ge3, _⟩ := box4p Hcx.out
        obtain ⟨gh0, gh1, gh2, gh3, gh4, gh5, gh6, gh7⟩ := box4p ((Hsm.out.block (w.heap.size + 1) ⟨by omega, by omega⟩ (by omega)).trans HF.out.y)
        have hzr : w.heap.size + 1 < wr.heap.size := by omega
        clear hown3 Hown hs8
        go_wp2
        refine bodyPost_ret (v := .agg #[.bool p.empty, .slice A8 p.steps.length c8, .slice K1 p.pair.1.length k1, .slice V1 p.pair.2.length v1]) (by simp [results, Try.results79, go_sem, gh0, gh1, gh2, gh3]) rfl ⟨A8, c8, K1, k1, V1, v1, rfl, ?_, ?_, ?_, ?_⟩
        · refine (Hs8.out.same stR_stays (((((Same.refl _ _).setCell (fun h => by simp only [From] at h; omega) _).setCell (fun h => by simp only [From] at h; omega) _).setCell (fun h => by simp only [From] at h; omega) _).setCell (fun h => by simp only [From] at h; omega) _)).less stR_stays (fun b _ h => by simp only [From] at *; omega)
        · refine (((HF.out.k.bless (S' := fun b => (w.heap.size + 2 ≤ b) ∧ (b < W0.heap.size ∧ b ≠ G)) fun b hb h => ⟨h.1, hb, h.2⟩).bsame ⟨Hsm.out.size, fun k hk hk2 => Hsm.out.block k hk.2 hk2⟩).bsame (((((Same.refl _ _).setCell (fun h => by have := h.1; simp only [] at this; omega) _).setCell (fun h => by have := h.1; simp only [] at this; omega) _).setCell (fun h => by have := h.1; simp only [] at this; omega) _).setCell (fun h => by have := h.1; simp only [] at this; omega) _)).bless (fun b _ h => by simp only [From] at *; omega)
        · refine (((HF.out.v.bless (S' := fun b => (w.heap.size + 2 ≤ b) ∧ (b < W0.heap.size ∧ b ≠ G)) fun b hb h => ⟨h.1, hb, h.2⟩).bsame ⟨Hsm.out.size, fun k hk hk2 => Hsm.out.block k hk.2 hk2⟩).bsame (((((Same.refl _ _).setCell (fun h => by have := h.1; simp only [] at this; omega) _).setCell (fun h => by have := h.1; simp only [] at this; omega) _).setCell (fun h => by have := h.1; simp only [] at this; omega) _).setCell (fun h => by have := h.1; simp only [] at this; omega) _)).bless (fun b _ h => by simp only [From] at *; omega)
        · exact ((((Hbw.out.setCell (by simp only []; omega) _).setCell (by simp only []; omega) _).setCell (by simp only []; omega) _).setCell (by simp only []; omega) _)
end Go.Proofs.Ythhcdibimnifaaa
