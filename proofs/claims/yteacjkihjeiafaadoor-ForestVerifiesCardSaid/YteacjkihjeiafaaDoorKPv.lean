/- Pv: Walks: proof.parted, by its closure and IndexFunc over it. Pairs that rise, of which each may be. The way of a key down the pairs, in plain words; proof.own. Walk: proof.Prove. Walk: canopyref.ProofOf. The law ProofProves: its walk. The conditions of each are in its words. -/
import Derived.Test.YteacjkihjeiafaaDoorKRootR
import Derived.Test.YteacjkihjeiafaaDoorKPf
import Derived.Test.YteacjkihjeiafaaDoorKTrees
import Derived.Test.YteacjkihjeiafaaDoorKForestW
import Derived.Test.YteacjkihjeiafaaDoorKRoot
namespace Go.Proofs.YteacjkihjeiafaaDoor
open Go.RowKit
set_option linter.unusedVariables false
set_option linter.unusedSimpArgs false

set_option maxRecDepth 100000 in
set_option maxHeartbeats 1000000 in
theorem pclo_ok (w : World) (g : Nat) (A B : Option Addr) (p : Pr) (a b d : Nat) (ha : Bs All w A p.1) (hk : keyFault p.1 = 0) (hd : d < 145) (hg : w.heap[g]? = some (.cells #[.int .i64 (d : Int)] 3 (0, 0))) :
    Calls Tryd.prog 120 #[.agg #[.slice A p.1.length a, .slice B p.2.length b], .pointer (some ⟨g, 0, none⟩)] w (RetV w (.bool (bitB p.1 d))) := by
  have Ha := Lib.hid ha
  have q0 : w.cell? ⟨g, 0, none⟩ = some (.int .i64 (d : Int)) := box_cell (cs := [.int .i64 (d : Int)]) hg 0
  have hlt : g < w.heap.size := (Array.getElem?_eq_some_iff.1 hg).1
  have Hb := Lib.hid (bit_key hk hd)
  clear hg ha
  go_enter Tryd.func120, Tryd.ntmps120
  go_wp2_with (go_at_call 80; (with_reducible refine (pathBit_ok _ A p.1 a d ?ha).mono ?_); (case ha => (refine Ha.out.bbelow ?_; repeat' (first | exact Below.refl _ _ | assumption | refine Below.drew ?_ | refine below_drewN ?_ _ | refine Below.setCell ?_ (by first | (simp; done) | omega | (simp; omega)) _ | refine Below.alloc ?_ (by first | exact Nat.le_refl _ | omega | (simp; done) | (simp; omega)) _))); rintro e w1 ⟨rfl, hb1⟩; rw [Hb.out])
  go_ret
  exact ⟨rfl, Below.next (by repeat' (first | exact Below.refl _ _ | assumption | refine Below.drew ?_ | refine below_drewN ?_ _ | refine Below.setCell ?_ (by first | (simp; done) | omega | (simp; omega)) _ | refine Below.alloc ?_ (by first | exact Nat.le_refl _ | omega | (simp; done) | (simp; omega)) _)) hb1 (by simp)⟩
set_option maxRecDepth 100000 in
set_option maxHeartbeats 1000000 in
theorem pidx_ok (w : World) (A : Option Addr) (l : List Pr) (n g d : Nat) (ha : Ps All w A l) (hp : Parts l d) (h2 : 2 ≤ l.length) (h60 : l.length ≤ 60) (ht : Tree l) (hg : w.heap[g]? = some (.cells #[.int .i64 (d : Int)] 3 (0, 0))) :
    Calls Tryd.prog 119 #[.slice A l.length n, .func (.func 120) #[] #[.pointer (some ⟨g, 0, none⟩)]] w (RetV w (.int .i64 ((leftN l : Nat) : Int))) := by
  obtain ⟨hn1, hn2, hbit⟩ := left_lt hp h2
  have Hbit := Lib.hid hbit
  have Ht := Lib.hid ht
  have Ha := Lib.hid ha
  have Hg := Lib.hid hg
  have hgl : g < w.heap.size := (Array.getElem?_eq_some_iff.1 hg).1
  have Hd := Lib.hid (show d < 145 by have := hp.d144; omega)
  clear hbit ha hp ht hg
  go_enter Tryd.func119, Tryd.ntmps119
  go_wp2
  go_loopw [8] (fun i wr => ∃ k : Nat, k ≤ leftN l ∧ i = .int .i64 k ∧ Below w.heap.size w wr) (fun i _ => l.length - (intOf i).toNat)
  case atStart => exact ⟨0, by omega, rfl, Below.refl _ _⟩
  case round =>
    obtain ⟨k, hk, rfl, hbel⟩ := hrel
    have Hbel := Lib.hid hbel
    have hbz := hbel.size
    clear hbel
    have hlt : k < l.length := by omega
    have Hlt := Lib.hid hlt
    have hki : (k : Int) < (l.length : Int) := by omega
    have mk : IntKind.i64.wrap ((k : Int) + 1) = (k : Int) + 1 := IntWalk.i64_in _ (by omega)
    obtain ⟨g2, off, K, c, V, c', rfl, _, hal, q0, q1, hs1, hs2, _, _⟩ := pairs_at (Ha.out.below pairR_stays Hbel.out) hlt
    have Hs1 := Lib.hid hs1.bz
    have Hk := Lib.hid (Ht.out.key _ (List.getElem_mem hlt))
    have Hbt := Lib.hid (Hbit.out k hlt)
    generalize l[k] = x at *
    clear hs1 hs2
    by_cases hl : k < leftN l
    · have Hf := Lib.hid (show bitB x.1 d = false by rw [Hbt.out]; simp; omega)
      have Hl := Lib.hid hl
      clear hl
      go_wp2_with (go_at_call 120; refine (pclo_ok _ g K V x c c' d Hs1.out Hk.out Hd.out ((Hbel.out.block _ hgl).trans Hg.out)).mono ?_; rintro e w1 ⟨rfl, hb1⟩; rw [Hf.out])
      go_roundw
      case rel => exact ⟨k + 1, Hl.out, by go_num, Hbel.out.next hb1 hbz⟩
      case measure => have hq := Hlt.out; simp [intOf]; omega
    · obtain rfl : k = leftN l := by omega
      have Hf := Lib.hid (show bitB x.1 d = true by rw [Hbt.out]; simp)
      clear hl
      go_wp2_with (go_at_call 120; refine (pclo_ok _ g K V x c c' d Hs1.out Hk.out Hd.out ((Hbel.out.block _ hgl).trans Hg.out)).mono ?_; rintro e w1 ⟨rfl, hb1⟩; rw [Hf.out])
      go_ret
      exact ⟨rfl, Hbel.out.next hb1 hbz⟩
set_option maxRecDepth 100000 in
set_option maxHeartbeats 2000000 in
theorem proofParted_ok (S0 : Nat → Prop) (w : World) (A : Option Addr) (l : List Pr) (c d : Nat) (ha : Ps S0 w A l) (hp : Parts l d) (h2 : 2 ≤ l.length) (h60 : l.length ≤ 60) (hc : l.length ≤ c) (ht : Tree l) :
    Calls Tryd.prog 79 #[.slice A l.length c] w (RetCut S0 w d (l.take (leftN l)) (l.drop (leftN l))) := by
  obtain ⟨hn1, hn2, _⟩ := left_lt hp h2
  have Hpt := Lib.hid (part_fst hp ht h2)
  have Hidx := Lib.hid (fun W g (hA : Ps All W A l) hg => pidx_ok W A l c g d hA hp h2 h60 ht hg)
  have Ha := Lib.hid ha
  obtain ⟨g, off, K0, c0, V0, d0, rfl, _, hgl, q0, _, hs0, _, _, _⟩ := pairs_at ha (show 0 < l.length by omega)
  obtain ⟨g', off', K1, c1, V1, d1, he, _, _, q1, _, hs1, _, _, _⟩ := pairs_at ha (show l.length - 1 < l.length by omega)
  cases he
  simp only [Nat.zero_mul, Nat.add_zero] at q0
  have Hs0 := Lib.hid hs0
  have Hs1 := Lib.hid hs1
  have mk : IntKind.i64.wrap ((l.length : Int) - 1) = ((l.length - 1 : Nat) : Int) := by rw [IntWalk.i64_in _ (by omega)]; omega
  have hi0 : (0 : Int) < (l.length : Int) := by omega
  have hi1 : ((l.length - 1 : Nat) : Int) < (l.length : Int) := by omega
  have hj0 : 0 < l.length := by omega
  have hj1 : l.length - 1 < l.length := by omega
  have Hax := Lib.hid (show ∀ W, Below w.heap.size w W → Ps S0 W (some ⟨g, off, none⟩) (l.take (leftN l)) from fun W hW => by have := SL.cut (Ha.out.below pairR_stays hW) 0 (leftN l); simpa using this)
  have Hay := Lib.hid (show ∀ W, Below w.heap.size w W → Ps S0 W (some ⟨g, off + leftN l * 2, none⟩) (l.drop (leftN l)) from fun W hW => by have := SL.cut (Ha.out.below pairR_stays hW) (leftN l) l.length; rw [List.take_of_length_le (by rw [List.length_drop]; omega)] at this; exact this)
  generalize hk : leftN l = k at *
  have Hlx := Lib.hid (show (l.take k).length = k by rw [List.length_take]; omega)
  have Hly := Lib.hid (show (l.drop k).length = l.length - k by rw [List.length_drop])
  generalize l.take k = x at *
  generalize l.drop k = y at *
  have hki : (k : Int) ≤ (l.length : Int) := by omega
  have hkc : (k : Int) ≤ (c : Int) := by omega
  have hlc : (l.length : Int) ≤ (c : Int) := by omega
  have hkn : k ≤ l.length := by omega
  have hkm : k ≤ c := by omega
  have Hcell := Lib.hid (show ∀ W, Below w.heap.size w W → W.cell? ⟨g, off, none⟩ = some (.slice K0 l[0].1.length c0) ∧ W.cell? ⟨g, off + (l.length - 1) * 2, none⟩ = some (.slice K1 l[l.length - 1].1.length c1) from fun W hW => ⟨(hW.cell hgl).trans q0, (hW.cell hgl).trans q1⟩)
  obtain ⟨q0', q1'⟩ := Hcell.out (w.alloc (.cells #[.int .i64 0] 3)) ((Below.refl _ _).alloc (Nat.le_refl _) _)
  clear ha hp ht hs0 hs1 hk q0 q1
  go_enter Tryd.func79, Tryd.ntmps79
  go_wp2_with fail
  go_region_held3 (fun w' => w'.cell? ⟨g, off, none⟩ = some (.slice K0 l[0].1.length c0) ∧ w'.cell? ⟨g, off + (l.length - 1) * 2, none⟩ = some (.slice K1 l[l.length - 1].1.length c1))
    (first
      | go_keep
      | exact Hcell.out _ hq1
      | exact Hcell.out _ (hq1.setCell (Nat.le_refl _) _))
    ((go_at_call 118; (with_reducible refine (pathPart_ok _ K0 K1 _ _ c0 c1 ?h1 ?h2).mono ?_); (case h1 => exact (Hs0.out.bbelow (show Below w.heap.size w _ from by repeat' (first | exact Below.refl _ _ | assumption | refine Below.drew ?_ | refine below_drewN ?_ _ | refine Below.setCell ?_ (by first | (simp; done) | omega | (simp; omega)) _ | refine Below.alloc ?_ (by first | exact Nat.le_refl _ | omega | (simp; done) | (simp; omega)) _))).bz); (case h2 => exact (Hs1.out.bbelow (show Below w.heap.size w _ from by repeat' (first | exact Below.refl _ _ | assumption | refine Below.drew ?_ | refine below_drewN ?_ _ | refine Below.setCell ?_ (by first | (simp; done) | omega | (simp; omega)) _ | refine Below.alloc ?_ (by first | exact Nat.le_refl _ | omega | (simp; done) | (simp; omega)) _))).bz); rintro e w1 ⟨rfl, hb1⟩; rw [Hpt.out]; have hq1 : Below w.heap.size w w1 := (Below.next (by repeat' (first | exact Below.refl _ _ | assumption | refine Below.drew ?_ | refine below_drewN ?_ _ | refine Below.setCell ?_ (by first | (simp; done) | omega | (simp; omega)) _ | refine Below.alloc ?_ (by first | exact Nat.le_refl _ | omega | (simp; done) | (simp; omega)) _)) hb1 (by simp)); have hgb : w1.heap[w.heap.size]? = some (.cells #[.int .i64 0] 3 (0, 0)) := (hb1.block _ (by simp)).trans (box_new w _ _); have g0 : w1.cell? ⟨w.heap.size, 0, none⟩ = some (.int .i64 0) := box_cell (cs := [.int .i64 0]) hgb 0; have f0 : w1.frozen? ⟨w.heap.size, 0, none⟩ = false := box_frozen (cs := [.int .i64 0]) hgb 0; have hz1 : w.heap.size < w1.heap.size := (Array.getElem?_eq_some_iff.1 hgb).1))
  obtain ⟨w2, hw2⟩ : ∃ w2, w1.setCell ⟨w.heap.size, 0, none⟩ (.int .i64 (d : Int)) = w2 := ⟨_, rfl⟩
  have hq2 : Below w.heap.size w w2 := by rw [← hw2]; exact hq1.setCell (Nat.le_refl _) _
  have hg2 : w2.heap[w.heap.size]? = some (.cells #[.int .i64 (d : Int)] 3 (0, 0)) := by rw [← hw2, heap_setCell_same _ _ _ _ _ _ hgb]; rfl
  have hz2 : w.heap.size < w2.heap.size := (Array.getElem?_eq_some_iff.1 hg2).1
  rw [hw2]
  clear hw2 q0' q1' hb1 hgb g0 f0 hz1 hq1 mk hi0 hi1
  go_wp2_with (go_at_call 119; refine (Hidx.out _ _ (SL.z pairR_stays (Ha.out.below pairR_stays hq2)) hg2).mono ?_; rintro e3 w3 ⟨rfl, hb3⟩; have hq3 := hq2.next hb3 hq2.size; have hg3 := (hb3.block _ hz2).trans hg2; have g3 : w3.cell? ⟨w.heap.size, 0, none⟩ = some (.int .i64 (d : Int)) := box_cell (cs := [.int .i64 (d : Int)]) hg3 0; have f3 : w3.frozen? ⟨w.heap.size, 0, none⟩ = false := box_frozen (cs := [.int .i64 (d : Int)]) hg3 0; have hz3 : w.heap.size < w3.heap.size := (Array.getElem?_eq_some_iff.1 hg3).1)
  go_region
  all_goals go_wp2
  obtain ⟨w4, hw4⟩ : ∃ w4, (w3.setCell ⟨w.heap.size, 0, none⟩ (.int .i64 (d : Int))).drew = w4 := ⟨_, rfl⟩
  have hq4 : Below w.heap.size w w4 := by rw [← hw4]; exact (hq3.setCell (Nat.le_refl _) _).drew
  have g4 : w4.cell? ⟨w.heap.size, 0, none⟩ = some (.int .i64 (d : Int)) := by
    rw [← hw4]
    exact box_cell (w := (w3.setCell ⟨w.heap.size, 0, none⟩ (.int .i64 (d : Int))).drew) (cs := [.int .i64 (d : Int)]) (show (w3.setCell ⟨w.heap.size, 0, none⟩ (.int .i64 (d : Int))).heap[w.heap.size]? = some (.cells #[.int .i64 (d : Int)] 3 (0, 0)) by rw [heap_setCell_same _ _ _ _ _ _ hg3]; rfl) 0
  rw [hw4]
  refine bodyPost_ret (v := .tuple #[.int .i64 (d : Int), .slice (some ⟨g, off, none⟩) k c, .slice (some ⟨g, off + k * 2, none⟩) (l.length - k) (c - k)]) (by simp [results, Tryd.results79, go_sem, g4]) rfl ?_
  exact ⟨some ⟨g, off, none⟩, c, some ⟨g, off + k * 2, none⟩, c - k, by rw [Hlx.out, Hly.out], by rw [Hlx.out]; omega, by rw [Hly.out]; omega, Hax.out _ hq4, Hay.out _ hq4, hq4⟩
end Go.Proofs.YteacjkihjeiafaaDoor
namespace Go.Proofs.YteacjkihjeiafaaDoor
open Go.RowKit
set_option linter.unusedVariables false
set_option linter.unusedSimpArgs false

/-- The steps of a key down the pairs, and what is at their end; so many steps at most. -/
def pathF (k : List UInt8) : Nat → List Pr → List St × List Pr
  | 0, l => ([], l)
  | n + 1, l => if l.length ≤ 1 then ([], l) else
    if bitB k (partBit l).toNat then (⟨partBit l, true, rootS (l.take (leftN l))⟩ :: (pathF k n (l.drop (leftN l))).1, (pathF k n (l.drop (leftN l))).2)
    else (⟨partBit l, false, rootS (l.drop (leftN l))⟩ :: (pathF k n (l.take (leftN l))).1, (pathF k n (l.take (leftN l))).2)
theorem pathF_next (k : List UInt8) (n : Nat) (l : List Pr) : pathF k (n + 1) l = if l.length ≤ 1 then ([], l) else
    if bitB k (partBit l).toNat then (⟨partBit l, true, rootS (l.take (leftN l))⟩ :: (pathF k n (l.drop (leftN l))).1, (pathF k n (l.drop (leftN l))).2)
    else (⟨partBit l, false, rootS (l.drop (leftN l))⟩ :: (pathF k n (l.take (leftN l))).1, (pathF k n (l.take (leftN l))).2) := rfl
theorem path_one {k : List UInt8} {n : Nat} {l : List Pr} (h : l.length ≤ 1) : pathF k n l = ([], l) := by
  cases n with
  | zero => rfl
  | succ n => rw [pathF_next, if_pos h]
theorem path_right {k : List UInt8} {n d : Nat} {l : List Pr} (hp : Parts l d) (h2 : 2 ≤ l.length) (hb : bitB k d = true) : pathF k (n + 1) l = (⟨d, true, rootS (l.take (leftN l))⟩ :: (pathF k n (l.drop (leftN l))).1, (pathF k n (l.drop (leftN l))).2) := by
  rw [pathF_next, if_neg (by omega), hp.bit, if_pos (by simpa using hb)]
theorem path_left {k : List UInt8} {n d : Nat} {l : List Pr} (hp : Parts l d) (h2 : 2 ≤ l.length) (hb : bitB k d = false) : pathF k (n + 1) l = (⟨d, false, rootS (l.drop (leftN l))⟩ :: (pathF k n (l.take (leftN l))).1, (pathF k n (l.take (leftN l))).2) := by
  rw [pathF_next, if_neg (by omega), hp.bit, if_neg (by simp [hb])]
def pf0 : Pf := ⟨false, [], ([], [])⟩
/-- What proof.Prove and ProofOf answer. -/
def proveS (l : List Pr) (k : List UInt8) : Pf × Int :=
  if pkFault l k ≠ 0 then (pf0, pkFault l k) else if l.length = 0 then (⟨true, [], ([], [])⟩, 0) else (⟨false, (pathF k l.length l).1, (pathF k l.length l).2.getD 0 ([], [])⟩, 0)
theorem tree_fault {l : List Pr} (h : Tree l) (h60 : l.length ≤ 60) : pairsFaultS l = 0 := by
  refine (pairs_fault_iff l).2 ⟨h60, fun p hp => ?_, h.rise⟩
  unfold pairFaultS
  rw [if_neg (by have := h.val p hp; omega)]
  exact h.key p hp
theorem rootE_tree {l : List Pr} (h : Tree l) (h60 : l.length ≤ 60) : rootE l = (rootS l, 0) := by rw [rootE, if_pos (tree_fault h h60)]
theorem getS_fault (l : List Pr) (k : List UInt8) : (getS l k).2 = pkFault l k := by
  by_cases h : pkFault l k = 0
  · rw [h]
    obtain ⟨h1, h2⟩ := pk_fine h
    unfold getS
    rw [if_neg (by simpa using h1), if_neg (by simpa using h2)]
    split <;> rfl
  · rw [getS_bad h]
/-- The call returns a proof and a number. -/
def RetPfE (w : World) (r : Pf × Int) (e : Ending) (w' : World) : Prop :=
  ∃ A n K a V b, e = .returned (.tuple #[.agg #[.bool r.1.empty, .slice A r.1.steps.length n, .slice K r.1.pair.1.length a, .slice V r.1.pair.2.length b], .int .i64 r.2]) ∧ Sts (From w.heap.size) w' A r.1.steps ∧ Bs (From w.heap.size) w' K r.1.pair.1 ∧ Bs (From w.heap.size) w' V r.1.pair.2 ∧ Below w.heap.size w w'
/-- Between two rounds: what is left of the pairs lies at lv; the steps so far lie in the proof's box G. -/
def PvI (q : Bool) (k : List UInt8) (W0 : World) (G : Nat) (SS : List St) (E : List Pr) (lv : Value) (wr : World) : Prop :=
  ∃ (n : Nat) (l : List Pr) (A : Option Addr) (c : Nat) (acc : List St) (v : Value), lv = .slice A l.length c ∧ (q = true → l.length ≤ c) ∧ 1 ≤ l.length ∧ l.length ≤ 60 ∧ l.length ≤ n + 1 ∧ acc.length + l.length ≤ 61 ∧ Tree l ∧ Ps (fun b => b ≠ G ∧ v.ownBlock ≠ some b) wr A l ∧ acc ++ (pathF k n l).1 = SS ∧ (pathF k n l).2 = E ∧
    Own 3 StR (From W0.heap.size) wr W0.heap.size 70 v acc ∧ wr.heap[G]? = some (.cells #[.bool false, v, .slice none 0 0, .slice none 0 0] 27 (0, 0)) ∧ Below G W0 wr
set_option maxHeartbeats 400000 in
theorem proofOwn_ok (w : World) (A B : Option Addr) (p : Pr) (c d : Nat) (ha : Bs All w A p.1) (hb : Bs All w B p.2) (h1 : p.1.length ≤ big) (h2 : p.2.length ≤ big) :
    Calls Tryd.prog 81 #[.agg #[.slice A p.1.length c, .slice B p.2.length d]] w (RetPair w p) := by
  have Ha := Lib.hid ha
  have Hb := Lib.hid hb
  clear ha hb
  go_enter Tryd.func81, Tryd.ntmps81
  go_wp2_with fail
  go_region_held3 (fun w' => w'.cell? ⟨w.heap.size, 0, none⟩ = some (.slice A p.1.length c) ∧ w'.cell? ⟨w.heap.size, 1, none⟩ = some (.slice B p.2.length d))
    (first
      | go_keep
      | (go_split_ands; refine ⟨(hb1.cell (by first | (simp; done) | omega | (simp; omega))).trans (by assumption), (hb1.cell (by first | (simp; done) | omega | (simp; omega))).trans (by assumption)⟩)
      | (go_split_ands; refine ⟨(hb2.cell (by have hq1 := hb1.size; simp at hq1 ⊢; omega)).trans (by assumption), (hb2.cell (by have hq1 := hb1.size; simp at hq1 ⊢; omega)).trans (by assumption)⟩))
    (first
      | (go_at_call 68; (with_reducible refine (clone_ok _ A p.1 c ?ha h1).mono ?_); (case ha => (refine Ha.out.bbelow ?_; repeat' (first | exact Below.refl _ _ | assumption | refine Below.drew ?_ | refine below_drewN ?_ _ | refine Below.alloc ?_ (by first | exact Nat.le_refl _ | omega | (simp; done) | (simp; omega)) _))); rintro e w1 ⟨A1, c1, rfl, hs1, hb1⟩)
      | (go_at_call 68; (with_reducible refine (clone_ok _ B p.2 d ?ha h2).mono ?_); (case ha => (refine Hb.out.bbelow (Below.next ?_ hb1 (by first | (simp; done) | omega | (simp; omega))); repeat' (first | exact Below.refl _ _ | assumption | refine Below.drew ?_ | refine below_drewN ?_ _ | refine Below.alloc ?_ (by first | exact Nat.le_refl _ | omega | (simp; done) | (simp; omega)) _))); rintro e w2 ⟨A2, c2, rfl, hs2, hb2⟩; have g0 : w2.cell? ⟨w.heap.size + 1, 0, none⟩ = some (.slice none 0 0) := (hb2.cell (by have hq1 := hb1.size; simp at hq1 ⊢; omega)).trans ((hb1.cell (by first | (simp; done) | omega | (simp; omega))).trans (by simp)); have g1 : w2.cell? ⟨w.heap.size + 1, 1, none⟩ = some (.slice none 0 0) := (hb2.cell (by have hq1 := hb1.size; simp at hq1 ⊢; omega)).trans ((hb1.cell (by first | (simp; done) | omega | (simp; omega))).trans (by simp)); have f0 : w2.frozen? ⟨w.heap.size + 1, 0, none⟩ = false := (hb2.frozen (by have hq1 := hb1.size; simp at hq1 ⊢; omega)).trans ((hb1.frozen (by first | (simp; done) | omega | (simp; omega))).trans (by simp)); have f1 : w2.frozen? ⟨w.heap.size + 1, 1, none⟩ = false := (hb2.frozen (by have hq1 := hb1.size; simp at hq1 ⊢; omega)).trans ((hb1.frozen (by first | (simp; done) | omega | (simp; omega))).trans (by simp))))
  all_goals
    go_wp2
    refine bodyPost_ret (v := .agg #[.slice A1 p.1.length c1, .slice A2 p.2.length c2]) (by simp [results, Tryd.results81, go_sem, g0, g1]) rfl ⟨A1, c1, A2, c2, rfl, ?_, ?_, ?_⟩
    · exact ((hs1.bbelow hb2).bsame (((Same.refl _ _).setCell (fun hq => by simp only [From] at hq; first | omega | (simp at hq; done) | (simp at hq; omega)) _).setCell (fun hq => by simp only [From] at hq; first | omega | (simp at hq; done) | (simp at hq; omega)) _)).blo (by first | (simp; done) | omega | (simp; omega))
    · exact (hs2.bsame (((Same.refl _ _).setCell (fun hq => by have hq1 := hb1.size; simp [From] at hq hq1; omega) _).setCell (fun hq => by have hq1 := hb1.size; simp [From] at hq hq1; omega) _)).blo (by have hq1 := hb1.size; simp at hq1 ⊢; omega)
    · refine Below.setCell (Below.setCell (Below.next (Below.next ?_ hb1 (by first | (simp; done) | omega | (simp; omega))) hb2 (by have hq1 := hb1.size; simp at hq1 ⊢; omega)) (by first | (simp; done) | omega | (simp; omega)) _) (by first | (simp; done) | omega | (simp; omega)) _
      repeat' (first | exact Below.refl _ _ | assumption | refine Below.drew ?_ | refine below_drewN ?_ _ | refine Below.alloc ?_ (by first | exact Nat.le_refl _ | omega | (simp; done) | (simp; omega)) _)

end Go.Proofs.YteacjkihjeiafaaDoor
namespace Go.Proofs.YteacjkihjeiafaaDoor
open Go.RowKit
set_option linter.unusedVariables false
set_option linter.unusedSimpArgs false

theorem measure_lt {A B : Option Addr} {a b n m : Nat} (h : a < b) : lenOf (.slice A a n) < lenOf (.slice B b m) := h
set_option maxRecDepth 100000 in
set_option maxHeartbeats 8000000 in
theorem prove_ok (w : World) (hT : TabsAt w) (A : Option Addr) (l : List Pr) (c : Nat) (K : Option Addr) (k : List UInt8) (kc : Nat) (ha : Ps All w A l) (hk : Bs All w K k) (hc : l.length ≤ c) :
    Calls Tryd.prog 39 #[.slice A l.length c, .slice K k.length kc] w (RetPfE w (proveS l k)) := by
  obtain ⟨i0, hi0, hy0, hy1, hy2⟩ := info_parts info_st
  have HT := Lib.hid hT
  have Ha := Lib.hid ha
  have Hk := Lib.hid hk
  clear hT ha hk
  obtain ⟨gf, gv, ge, hget⟩ : ∃ gf gv ge, getS l k = ((gf, gv), ge) := ⟨_, _, _, rfl⟩
  have Hge := Lib.hid (show ge = pkFault l k by rw [← getS_fault, hget])
  have Hget := Lib.hid hget
  clear hget
  have Hz0 := Lib.hid (box_new w #[.bool false, .slice none 0 0, .slice none 0 0, .slice none 0 0] 27)
  by_cases hf : pkFault l k = 0
  · have hge0 : ge = 0 := Hge.out.trans hf
    subst hge0
    by_cases h0 : l.length = 0
    · have Hv := Lib.hid (show proveS l k = (⟨true, [], ([], [])⟩, 0) by rw [proveS, if_neg (by simpa using hf), if_pos h0])
      have hz : ((l.length : Int) == 0) = true := by simp [h0]
      have hz' : decide ((l.length : Int) = 0) = true := by simp [h0]
      clear hf h0
      go_enter Tryd.func39, Tryd.ntmps39
      go_wp2_with (go_at_call 78; (with_reducible refine (treeGet_ok _ A l c K k kc ?h1 ?h2).mono ?_); (case h1 => (refine Ha.out.below pairR_stays ?_; repeat' (first | exact Below.refl _ _ | assumption | refine Below.drew ?_ | refine below_drewN ?_ _ | refine Below.setCell ?_ (by first | (simp; done) | omega | (simp; omega)) _ | refine Below.alloc ?_ (by first | exact Nat.le_refl _ | omega | (simp; done) | (simp; omega)) _))); (case h2 => (refine Hk.out.bbelow ?_; repeat' (first | exact Below.refl _ _ | assumption | refine Below.drew ?_ | refine below_drewN ?_ _ | refine Below.setCell ?_ (by first | (simp; done) | omega | (simp; omega)) _ | refine Below.alloc ?_ (by first | exact Nat.le_refl _ | omega | (simp; done) | (simp; omega)) _))); rw [Hget.out]; rintro e1 w1 ⟨V1, v1, rfl, _, hb1⟩; have hq1 : Below w.heap.size w w1 := (Below.next (by repeat' (first | exact Below.refl _ _ | assumption | refine Below.drew ?_ | refine below_drewN ?_ _ | refine Below.setCell ?_ (by first | (simp; done) | omega | (simp; omega)) _ | refine Below.alloc ?_ (by first | exact Nat.le_refl _ | omega | (simp; done) | (simp; omega)) _)) hb1 (by simp)); have hx1 := (hb1.block w.heap.size (by simp)).trans Hz0.out; have hlt1 : w.heap.size < w1.heap.size := (Array.getElem?_eq_some_iff.1 hx1).1; obtain ⟨r0, r1, r2, r3, r4, r5, r6, r7⟩ := box4p hx1)
      obtain ⟨w2, hw2⟩ : ∃ w2, (((((w1.setCell ⟨w.heap.size, 0, none⟩ (.bool true)).setCell ⟨w.heap.size, 1, none⟩ (.slice none 0 0)).setCell ⟨w.heap.size, 2, none⟩ (.slice none 0 0)).setCell ⟨w.heap.size, 3, none⟩ (.slice none 0 0)).alloc (.cells #[.bool gf, .slice V1 gv.length v1] 29)) = w2 := ⟨_, rfl⟩
      have hz2 : w2.heap[w.heap.size]? = some (.cells #[.bool true, .slice none 0 0, .slice none 0 0, .slice none 0 0] 27 (0, 0)) := by
        rw [← hw2]
        rw [heap_alloc_old _ _ (by simpa using hlt1), heap_setCell_same _ _ _ _ _ _ (heap_setCell_same _ _ _ _ _ _ (heap_setCell_same _ _ _ _ _ _ (heap_setCell_same _ _ _ _ _ _ hx1)))]
        rfl
      have hb2 : Below w.heap.size w w2 := by
        rw [← hw2]
        exact ((((hq1.setCell (Nat.le_refl _) _).setCell (Nat.le_refl _) _).setCell (Nat.le_refl _) _).setCell (Nat.le_refl _) _).alloc (by simpa using hq1.size) _
      rw [hw2]
      obtain ⟨e0, e1, e2, e3, _⟩ := box4p hz2
      refine bodyPost_ret (v := .tuple #[.agg #[.bool true, .slice none 0 0, .slice none 0 0, .slice none 0 0], .int .i64 0]) (by simp [results, Tryd.results39, go_sem, e0, e1, e2, e3]) rfl ?_
      rw [Hv.out]
      exact ⟨none, 0, none, 0, none, 0, rfl, SL.nil, SL.nil, SL.nil, hb2⟩
    · obtain ⟨SS, E, hSE⟩ : ∃ SS E, pathF k l.length l = (SS, E) := ⟨_, _, rfl⟩
      have Hv := Lib.hid (show proveS l k = (⟨false, SS, E.getD 0 ([], [])⟩, 0) by rw [proveS, if_neg (by simpa using hf), if_neg h0, hSE])
      obtain ⟨hpf, hkf⟩ := pk_fine hf
      have Hkf := Lib.hid hkf
      have Ht := Lib.hid (tree_of hpf)
      have H60 := Lib.hid (pairs_fine hpf).1
      have H1 := Lib.hid (show 1 ≤ l.length by omega)
      have HSE := Lib.hid hSE
      have hz : ((l.length : Int) == 0) = false := by rw [beq_eq_false_iff_ne]; omega
      have hz' : decide ((l.length : Int) = 0) = false := decide_eq_false (by omega)
      clear hf h0 hSE hpf hkf
      go_enter Tryd.func39, Tryd.ntmps39
      go_wp2_with (go_at_call 78; (with_reducible refine (treeGet_ok _ A l c K k kc ?h1 ?h2).mono ?_); (case h1 => (refine Ha.out.below pairR_stays ?_; repeat' (first | exact Below.refl _ _ | assumption | refine Below.drew ?_ | refine below_drewN ?_ _ | refine Below.setCell ?_ (by first | (simp; done) | omega | (simp; omega)) _ | refine Below.alloc ?_ (by first | exact Nat.le_refl _ | omega | (simp; done) | (simp; omega)) _))); (case h2 => (refine Hk.out.bbelow ?_; repeat' (first | exact Below.refl _ _ | assumption | refine Below.drew ?_ | refine below_drewN ?_ _ | refine Below.setCell ?_ (by first | (simp; done) | omega | (simp; omega)) _ | refine Below.alloc ?_ (by first | exact Nat.le_refl _ | omega | (simp; done) | (simp; omega)) _))); rw [Hget.out]; rintro e1 w1 ⟨V1, v1, rfl, _, hb1⟩; have hq1 : Below w.heap.size w w1 := (Below.next (by repeat' (first | exact Below.refl _ _ | assumption | refine Below.drew ?_ | refine below_drewN ?_ _ | refine Below.setCell ?_ (by first | (simp; done) | omega | (simp; omega)) _ | refine Below.alloc ?_ (by first | exact Nat.le_refl _ | omega | (simp; done) | (simp; omega)) _)) hb1 (by simp)); have hx1 := (hb1.block w.heap.size (by simp)).trans Hz0.out; have hlt1 : w.heap.size < w1.heap.size := (Array.getElem?_eq_some_iff.1 hx1).1; obtain ⟨r0, r1, r2, r3, r4, r5, r6, r7⟩ := box4p hx1)
      obtain ⟨W0, hW0⟩ : ∃ W0, ((w1.alloc (.cells #[.bool gf, .slice V1 gv.length v1] 29)).alloc (.cells #[.bool false, .slice none 0 0, .slice none 0 0, .slice none 0 0] 27)) = W0 := ⟨_, rfl⟩
      have hGs : w1.heap.size + 1 + 1 = W0.heap.size := by rw [← hW0]; simp
      have hR0 : W0.heap[w.heap.size]? = some (.cells #[.bool false, .slice none 0 0, .slice none 0 0, .slice none 0 0] 27 (0, 0)) := by
        rw [← hW0, heap_alloc_old _ _ (by simp; omega), heap_alloc_old _ _ hlt1]
        exact hx1
      have hG0 : W0.heap[w1.heap.size + 1]? = some (.cells #[.bool false, .slice none 0 0, .slice none 0 0, .slice none 0 0] 27 (0, 0)) := by
        have := heap_alloc_new (w1.alloc (.cells #[.bool gf, .slice V1 gv.length v1] 29)) (.cells #[.bool false, .slice none 0 0, .slice none 0 0, .slice none 0 0] 27)
        rw [← hW0]
        simpa using this
      have hb0 : Below w.heap.size w W0 := by
        rw [← hW0]
        exact (hq1.alloc hq1.size _).alloc (by have := hq1.size; simp; omega) _
      have hRG : w.heap.size < w1.heap.size + 1 := by omega
      rw [hW0]
      have HR0 := Lib.hid hR0
      have HG0 := Lib.hid hG0
      have Hb0 := Lib.hid hb0
      clear hW0 hR0 hG0 hb0 hb1 hq1 hx1 r0 r1 r2 r3 r4 r5 r6 r7 hz hz'
      go_loopw [0] (fun lv wr => PvI true k W0 (w1.heap.size + 1) SS E lv wr) (fun lv _ => lenOf lv)
      case atStart =>
        refine ⟨l.length, l, A, c, [], _, rfl, fun _ => hc, H1.out, H60.out, by omega, by have := H60.out; simp; omega, Ht.out, ?_, ?_, ?_, Own.nil _ _ _, HG0.out, Below.refl _ _⟩
        · refine ((Ha.out.less pairR_stays (S' := fun b => b < w.heap.size) fun b hb _ => hb).same pairR_stays ⟨Hb0.out.size, fun b hb _ => Hb0.out.block b hb⟩).less pairR_stays fun b _ hb => ⟨by omega, fun h => by cases h⟩
        · rw [HSE.out]; rfl
        · rw [HSE.out]
      case round =>
        obtain ⟨n, l', A', c', acc, v, rfl, hcc0, hl1, hl60, hln, hal, htr, hps, hSS, hEE, hown, hbx, hbel⟩ := hrel
        have hcc := hcc0 rfl
        have Hps := Lib.hid hps
        have Hown := Lib.hid hown
        have Hbx := Lib.hid hbx
        have Hbel := Lib.hid hbel
        have Htr := Lib.hid htr
        have hzr := hbel.size
        by_cases hlt : 1 < l'.length
        · have hki : (1 : Int) < (l'.length : Int) := by omega
          obtain ⟨d, hp⟩ := htr.parts (by omega)
          obtain ⟨hn1, hn2, _⟩ := left_lt hp (by omega)
          have Hpar := Lib.hid (fun W hW => proofParted_ok (fun b => b ≠ w1.heap.size + 1 ∧ v.ownBlock ≠ some b) W A' l' c' d hW hp (by omega) hl60 hcc htr)
          have Hkb := Lib.hid (bit_key Hkf.out (show d < 145 by have := hp.d144; omega))
          have Hd := Lib.hid hp.d144
          obtain ⟨m, rfl⟩ : ∃ m, n = m + 1 := ⟨n - 1, by omega⟩
          have Htx := Lib.hid (htr.take (leftN l'))
          have Hty := Lib.hid (htr.drop (leftN l'))
          have Hlx := Lib.hid (show (l'.take (leftN l')).length = leftN l' by rw [List.length_take]; omega)
          have Hly := Lib.hid (show (l'.drop (leftN l')).length = l'.length - leftN l' by rw [List.length_drop])
          have Hln := Lib.hid (show 1 ≤ leftN l' ∧ leftN l' ≤ l'.length - 1 from ⟨hn1, hn2⟩)
          rcases Bool.eq_false_or_eq_true (bitB k d) with hb | hb
          · rw [path_right hp (by omega) hb] at hSS hEE
            have Hb := Lib.hid hb
            have HrO := Lib.hid (rootE_tree Htx.out (by rw [Hlx.out]; omega))
            have Hfin := Lib.hid (show Hty = Hty from rfl)
            generalize hxx : l'.take (leftN l') = x at *
            generalize hyy : l'.drop (leftN l') = y at *
            generalize hkk : leftN l' = kk at *
            have hzr' : w1.heap.size + 1 < wr.heap.size := by omega
            clear hxx hyy hkk Hfin hn1 hn2 hl1
            go_wp2_with (first
              | (go_at_call 79; (with_reducible refine (Hpar.out _ Hps.out).mono ?_); rintro e2 w2 ⟨X, cx, Y, cy, rfl, hcx, hcy, hsx, hsy, hb2⟩; have hz2 := hb2.size; have hg2 := (hb2.block (w1.heap.size + 1) hzr').trans Hbx.out; have hw2 : Below w.heap.size w w2 := (Hb0.out.trans (Hbel.out.mono (by omega))).next hb2 (by have := Hb0.out.size; omega))
              | (go_at_call 80; (with_reducible refine (pathBit_ok _ K k kc d ?h).mono ?_); (case h => exact Hk.out.bbelow (hw2.alloc hw2.size _)); rw [Hkb.out, Hb.out]; rintro e3 w3 ⟨rfl, hb3⟩; have hs3 := (hb3.block w2.heap.size (by simp)).trans (box_new w2 _ _); obtain ⟨s0, s1, s2, s3, s4, s5⟩ := box3p hs3; have hz3 : w2.heap.size < w3.heap.size := (Array.getElem?_eq_some_iff.1 hs3).1; have hg3 := (hb3.block (w1.heap.size + 1) (by simp; omega)).trans ((heap_alloc_old _ _ (by omega)).trans hg2); have hw3 : Below w.heap.size w w3 := (hw2.alloc hw2.size _).next hb3 (by have := hw2.size; simp; omega); have hsm3 : Same (fun b => b < w2.heap.size) w2 w3 := ((Same.refl _ _).alloc _).trans (Same.of_below hb3); have hr3 : Below wr.heap.size wr w3 := (hb2.alloc hz2 _).next hb3 (by simp; omega))
              | (go_at_call 32; (with_reducible refine (treeRootE_ok _ ?hT X x cx ?ha hcx).mono ?_); (case hT => exact HT.out.below (hw3.setCell (by have := hw2.size; simp only []; omega) _)); (case ha => exact ((hsx.less pairR_stays (S' := fun b => b < w2.heap.size) fun b hb _ => hb).same pairR_stays (hsm3.setCell (by simp) _)).z pairR_stays); rw [HrO.out]; rintro e4 w4 ⟨B, bc, rfl, hsB, hb4⟩; have hs4 := (hb4.block w2.heap.size (by simpa using hz3)).trans (show _ = some (.cells #[.int .i64 (d : Int), .bool true, .slice none 0 0] 70 (0, 0)) by rw [heap_setCell_same _ _ _ _ _ _ hs3]; rfl); obtain ⟨t0, t1, t2, t3, t4, t5⟩ := box3p hs4; have hz4 : w2.heap.size < w4.heap.size := (Array.getElem?_eq_some_iff.1 hs4).1; have hz34 : w3.heap.size ≤ w4.heap.size := (by simpa using hb4.size); have hg4 := (hb4.block (w1.heap.size + 1) (by simp; omega)).trans ((Below.heap_setCell w3 ⟨w2.heap.size, 1, none⟩ (.bool true) (w1.heap.size + 1) (by simp only []; omega)).trans hg3); have hg5 := (Below.heap_setCell w4 ⟨w2.heap.size, 2, none⟩ (.slice B (rootS x).length bc) (w1.heap.size + 1) (by simp only []; omega)).trans hg4; obtain ⟨ga0, ga1, ga2, ga3, _⟩ := box4p hg5; have hw4 : Below w.heap.size w w4 := (hw3.setCell (by have := hw2.size; simp only []; omega) _).next hb4 (by have := hw2.size; simp; omega); have hr4 : Below wr.heap.size wr w4 := (hr3.setCell (by simp only []; omega) _).next hb4 (by simp; omega))
              | (at_builtin; refine wpl_snocR stR_stays (S := From W0.heap.size) _ rfl _ _ _ rfl W0.heap.size 70 i0 _ 3 40 Tryd.underlying23 hi0 hy0 hy1 hy2 rfl (by decide) v acc rfl ?hown _ _ [.int .i64 (d : Int), .bool true, .slice B (rootS x).length bc] rfl rfl (new_src _ _ [.int .i64 (d : Int), .bool true, .slice B (rootS x).length bc] _ (by simp)) (by simp [Value.oneCell']) ?hm ?hby ?hba ⟨d, true, rootS x⟩ ?hd ?_; (case hown => exact Own.below stR_stays Hown.out ((hr4.setCell (by simp only []; omega) _).alloc (by simp; omega) _)); (case hm => (simp only [maxLen]; omega)); (case hby => omega); (case hba => (simp; omega)); (case hd => exact st_fresh (n := w3.heap.size) (x := ⟨d, true, rootS x⟩) (hsB.blo (by simp)) (by rw [rootS_len]; simp [big]) (((Same.refl _ _).setCell (fun h => by simp only [From] at h; omega) _).alloc _) (by omega) (fun b hb => Hown.out.apart w3.heap.size (by omega) b hb)); intro v6 w6 hown6 hbw6 hgr hat; obtain ⟨A6, c6, rfl⟩ := own_len hown6; have hg6 := (hbw6.block (w1.heap.size + 1) (by omega)).trans ((heap_alloc_old _ _ (by simp; omega)).trans hg5); obtain ⟨gf0, gf1, gf2, gf3, gf4, gf5, gf6, gf7⟩ := box4p hg6; have hz6 : w1.heap.size + 1 < w6.heap.size := (Array.getElem?_eq_some_iff.1 hg6).1))
            have hS : Same (fun b => (b ≠ w1.heap.size + 1 ∧ v.ownBlock ≠ some b) ∧ b < w2.heap.size) w2 (w6.setCell ⟨w1.heap.size + 1, 1, none⟩ (.slice A6 (acc.length + 1) c6)) :=
              ((((((((Same.refl _ _).alloc _).trans (Same.of_below hb3)).setCell (fun h => by have := h.2; simp only [] at this; omega) _).trans (Same.of_below hb4)).setCell (fun h => by have := h.2; simp only [] at this; omega) _).alloc _).grown hgr (fun b hb h => h.1.2 hb)).setCell (fun h => h.1.1 rfl) _
            have hly := Hly.out
            have hln := Hln.out
            refine ⟨⟨m, y, Y, cy, acc ++ [⟨d, true, rootS x⟩], .slice A6 (acc ++ [(⟨d, true, rootS x⟩ : St)]).length c6, rfl, fun _ => hcy, by omega, by omega, by omega, by simp; omega, Hty.out, ?_, ?_, hEE, ?_, ?_, ?_⟩, show y.length < l'.length by omega⟩
            · refine ((hsy.less pairR_stays (S' := fun b => (b ≠ w1.heap.size + 1 ∧ v.ownBlock ≠ some b) ∧ b < w2.heap.size) fun b hb h => ⟨h, hb⟩).same pairR_stays hS).less pairR_stays fun b _ h => ⟨h.1.1, ?_⟩
              rcases hat with ht | ht
              · rw [ht]; exact h.1.2
              · rw [ht]
                have q1 := h.2
                intro hq
                injection hq with hq
                simp at hq
                omega
            · rw [List.append_assoc]; exact hSS
            · exact Own.same_from3 stR_stays hown6 ((Same.refl _ _).setCell (fun h => by simp only [From] at h; omega) _)
            · rw [heap_setCell_same _ _ _ _ _ _ hg6]; simp
            · exact ((((Hbel.out.trans (hr4.mono (by omega))).setCell (by simp only []; omega) _).alloc (by simp; omega) _).trans (hbw6.mono (by omega))).setCell (Nat.le_refl _) _
          · rw [path_left hp (by omega) hb] at hSS hEE
            have Hb := Lib.hid hb
            have HrO := Lib.hid (rootE_tree Hty.out (by rw [Hly.out]; omega))
            have Hfin := Lib.hid (show Htx = Htx from rfl)
            generalize hxx : l'.take (leftN l') = x at *
            generalize hyy : l'.drop (leftN l') = y at *
            generalize hkk : leftN l' = kk at *
            have hzr' : w1.heap.size + 1 < wr.heap.size := by omega
            clear hxx hyy hkk Hfin hn1 hn2 hl1
            go_wp2_with (first
              | (go_at_call 79; (with_reducible refine (Hpar.out _ Hps.out).mono ?_); rintro e2 w2 ⟨X, cx, Y, cy, rfl, hcx, hcy, hsx, hsy, hb2⟩; have hz2 := hb2.size; have hg2 := (hb2.block (w1.heap.size + 1) hzr').trans Hbx.out; have hw2 : Below w.heap.size w w2 := (Hb0.out.trans (Hbel.out.mono (by omega))).next hb2 (by have := Hb0.out.size; omega))
              | (go_at_call 80; (with_reducible refine (pathBit_ok _ K k kc d ?h).mono ?_); (case h => exact Hk.out.bbelow (hw2.alloc hw2.size _)); rw [Hkb.out, Hb.out]; rintro e3 w3 ⟨rfl, hb3⟩; have hs3 := (hb3.block w2.heap.size (by simp)).trans (box_new w2 _ _); obtain ⟨s0, s1, s2, s3, s4, s5⟩ := box3p hs3; have hz3 : w2.heap.size < w3.heap.size := (Array.getElem?_eq_some_iff.1 hs3).1; have hg3 := (hb3.block (w1.heap.size + 1) (by simp; omega)).trans ((heap_alloc_old _ _ (by omega)).trans hg2); have hw3 : Below w.heap.size w w3 := (hw2.alloc hw2.size _).next hb3 (by have := hw2.size; simp; omega); have hsm3 : Same (fun b => b < w2.heap.size) w2 w3 := ((Same.refl _ _).alloc _).trans (Same.of_below hb3); have hr3 : Below wr.heap.size wr w3 := (hb2.alloc hz2 _).next hb3 (by simp; omega))
              | (go_at_call 32; (with_reducible refine (treeRootE_ok _ ?hT Y y cy ?ha hcy).mono ?_); (case hT => exact HT.out.below (hw3.setCell (by have := hw2.size; simp only []; omega) _)); (case ha => exact ((hsy.less pairR_stays (S' := fun b => b < w2.heap.size) fun b hb _ => hb).same pairR_stays (hsm3.setCell (by simp) _)).z pairR_stays); rw [HrO.out]; rintro e4 w4 ⟨B, bc, rfl, hsB, hb4⟩; have hs4 := (hb4.block w2.heap.size (by simpa using hz3)).trans (show _ = some (.cells #[.int .i64 (d : Int), .bool false, .slice none 0 0] 70 (0, 0)) by rw [heap_setCell_same _ _ _ _ _ _ hs3]; rfl); obtain ⟨t0, t1, t2, t3, t4, t5⟩ := box3p hs4; have hz4 : w2.heap.size < w4.heap.size := (Array.getElem?_eq_some_iff.1 hs4).1; have hz34 : w3.heap.size ≤ w4.heap.size := (by simpa using hb4.size); have hg4 := (hb4.block (w1.heap.size + 1) (by simp; omega)).trans ((Below.heap_setCell w3 ⟨w2.heap.size, 1, none⟩ (.bool false) (w1.heap.size + 1) (by simp only []; omega)).trans hg3); have hg5 := (Below.heap_setCell w4 ⟨w2.heap.size, 2, none⟩ (.slice B (rootS y).length bc) (w1.heap.size + 1) (by simp only []; omega)).trans hg4; obtain ⟨ga0, ga1, ga2, ga3, _⟩ := box4p hg5; have hw4 : Below w.heap.size w w4 := (hw3.setCell (by have := hw2.size; simp only []; omega) _).next hb4 (by have := hw2.size; simp; omega); have hr4 : Below wr.heap.size wr w4 := (hr3.setCell (by simp only []; omega) _).next hb4 (by simp; omega))
              | (at_builtin; refine wpl_snocR stR_stays (S := From W0.heap.size) _ rfl _ _ _ rfl W0.heap.size 70 i0 _ 3 40 Tryd.underlying23 hi0 hy0 hy1 hy2 rfl (by decide) v acc rfl ?hown _ _ [.int .i64 (d : Int), .bool false, .slice B (rootS y).length bc] rfl rfl (new_src _ _ [.int .i64 (d : Int), .bool false, .slice B (rootS y).length bc] _ (by simp)) (by simp [Value.oneCell']) ?hm ?hby ?hba ⟨d, false, rootS y⟩ ?hd ?_; (case hown => exact Own.below stR_stays Hown.out ((hr4.setCell (by simp only []; omega) _).alloc (by simp; omega) _)); (case hm => (simp only [maxLen]; omega)); (case hby => omega); (case hba => (simp; omega)); (case hd => exact st_fresh (n := w3.heap.size) (x := ⟨d, false, rootS y⟩) (hsB.blo (by simp)) (by rw [rootS_len]; simp [big]) (((Same.refl _ _).setCell (fun h => by simp only [From] at h; omega) _).alloc _) (by omega) (fun b hb => Hown.out.apart w3.heap.size (by omega) b hb)); intro v6 w6 hown6 hbw6 hgr hat; obtain ⟨A6, c6, rfl⟩ := own_len hown6; have hg6 := (hbw6.block (w1.heap.size + 1) (by omega)).trans ((heap_alloc_old _ _ (by simp; omega)).trans hg5); obtain ⟨gf0, gf1, gf2, gf3, gf4, gf5, gf6, gf7⟩ := box4p hg6; have hz6 : w1.heap.size + 1 < w6.heap.size := (Array.getElem?_eq_some_iff.1 hg6).1))
            have hS : Same (fun b => (b ≠ w1.heap.size + 1 ∧ v.ownBlock ≠ some b) ∧ b < w2.heap.size) w2 (w6.setCell ⟨w1.heap.size + 1, 1, none⟩ (.slice A6 (acc.length + 1) c6)) :=
              ((((((((Same.refl _ _).alloc _).trans (Same.of_below hb3)).setCell (fun h => by have := h.2; simp only [] at this; omega) _).trans (Same.of_below hb4)).setCell (fun h => by have := h.2; simp only [] at this; omega) _).alloc _).grown hgr (fun b hb h => h.1.2 hb)).setCell (fun h => h.1.1 rfl) _
            have hly := Hlx.out
            have hln := Hln.out
            refine ⟨⟨m, x, X, cx, acc ++ [⟨d, false, rootS y⟩], .slice A6 (acc ++ [(⟨d, false, rootS y⟩ : St)]).length c6, rfl, fun _ => hcx, by omega, by omega, by omega, by simp; omega, Htx.out, ?_, ?_, hEE, ?_, ?_, ?_⟩, show x.length < l'.length by omega⟩
            · refine ((hsx.less pairR_stays (S' := fun b => (b ≠ w1.heap.size + 1 ∧ v.ownBlock ≠ some b) ∧ b < w2.heap.size) fun b hb h => ⟨h, hb⟩).same pairR_stays hS).less pairR_stays fun b _ h => ⟨h.1.1, ?_⟩
              rcases hat with ht | ht
              · rw [ht]; exact h.1.2
              · rw [ht]
                have q1 := h.2
                intro hq
                injection hq with hq
                simp at hq
                omega
            · rw [List.append_assoc]; exact hSS
            · exact Own.same_from3 stR_stays hown6 ((Same.refl _ _).setCell (fun h => by simp only [From] at h; omega) _)
            · rw [heap_setCell_same _ _ _ _ _ _ hg6]; simp
            · exact ((((Hbel.out.trans (hr4.mono (by omega))).setCell (by simp only []; omega) _).alloc (by simp; omega) _).trans (hbw6.mono (by omega))).setCell (Nat.le_refl _) _
        · have hl1' : l'.length = 1 := by omega
          have hki : ¬ (1 : Int) < (l'.length : Int) := by omega
          rw [path_one (by omega)] at hSS hEE
          simp only [List.append_nil] at hSS
          subst hSS hEE
          obtain ⟨q, rfl⟩ := List.length_eq_one_iff.1 hl1'
          obtain ⟨g, off, K0, c0, V0, d0, rfl, hgS, hgl, q0, q1, hs0, hs1, hbK, hbV⟩ := pairs_at Hps.out (k := 0) (by simp)
          simp only [Nat.zero_mul, Nat.add_zero, List.getElem_cons_zero] at q0 q1 hs0 hs1 hbK hbV
          have Hs0 := Lib.hid hs0.bz
          have Hs1 := Lib.hid hs1.bz
          obtain ⟨A9, c9, rfl, _, hs9⟩ := Hown.out.readc stR_stays
          have Hs9 := Lib.hid hs9
          have hR1 := (Hbel.out.block w.heap.size hRG).trans HR0.out
          have HR1 := Lib.hid hR1
          have hzr' : w1.heap.size + 1 < wr.heap.size := by omega
          have Hbw := Lib.hid (Hb0.out.trans (Hbel.out.mono (by omega)))
          clear hs0 hs1 hs9 hR1 hlt hki hl1 hl1' hl60 hln hal hcc hcc0 htr
          go_wp2_with ((go_at_call 81; (with_reducible refine (proofOwn_ok _ K0 V0 q c0 d0 Hs0.out Hs1.out hbK hbV).mono ?_); rintro e2 w2 ⟨K2, k2, V2, v2, rfl, hs2a, hs2b, hb2⟩; have hg2 := (hb2.block (w1.heap.size + 1) hzr').trans Hbx.out; have hr2 := (hb2.block w.heap.size (by omega)).trans HR1.out; have hz2 := hb2.size; obtain ⟨ga0, ga1, ga2, ga3, ga4, ga5, ga6, ga7⟩ := box4p hg2; obtain ⟨gr0, gr1, gr2, gr3, gr4, gr5, gr6, gr7⟩ := box4p hr2; have hzg2 : w1.heap.size + 1 < w2.heap.size := (by omega); have hzr2 : w.heap.size < w2.heap.size := (by omega)))
          obtain ⟨w9, hw9⟩ : ∃ w9, ((((((w2.setCell ⟨w1.heap.size + 1, 2, none⟩ (.slice K2 q.1.length k2)).setCell ⟨w1.heap.size + 1, 3, none⟩ (.slice V2 q.2.length v2)).setCell ⟨w.heap.size, 0, none⟩ (.bool false)).setCell ⟨w.heap.size, 1, none⟩ (.slice A9 acc.length c9)).setCell ⟨w.heap.size, 2, none⟩ (.slice K2 q.1.length k2)).setCell ⟨w.heap.size, 3, none⟩ (.slice V2 q.2.length v2)) = w9 := ⟨_, rfl⟩
          have hr9 : w9.heap[w.heap.size]? = some (.cells #[.bool false, .slice A9 acc.length c9, .slice K2 q.1.length k2, .slice V2 q.2.length v2] 27 (0, 0)) := by
            rw [← hw9, heap_setCell_same _ _ _ _ _ _ (heap_setCell_same _ _ _ _ _ _ (heap_setCell_same _ _ _ _ _ _ (heap_setCell_same _ _ _ _ _ _ ((Below.heap_setCell _ _ _ _ (by simp only []; omega)).trans ((Below.heap_setCell _ _ _ _ (by simp only []; omega)).trans hr2)))))]
            rfl
          have hb9 : Below w.heap.size w w9 := by rw [← hw9]; exact (((((((Hbw.out.next hb2 Hbw.out.size).setCell (by simp only []; omega) _).setCell (by simp only []; omega) _).setCell (by simp only []; omega) _).setCell (by simp only []; omega) _).setCell (by simp only []; omega) _).setCell (by simp only []; omega) _)
          have hS9 : Same (From W0.heap.size) wr w9 := by rw [← hw9]; exact (((((((Same.of_below hb2).setCell (fun h => by simp only [From] at h; omega) _).setCell (fun h => by simp only [From] at h; omega) _).setCell (fun h => by simp only [From] at h; omega) _).setCell (fun h => by simp only [From] at h; omega) _).setCell (fun h => by simp only [From] at h; omega) _).setCell (fun h => by simp only [From] at h; omega) _)
          have hS8 : Same (From wr.heap.size) w2 w9 := by rw [← hw9]; exact (((((((Same.refl _ _).setCell (fun h => by simp only [From] at h; omega) _).setCell (fun h => by simp only [From] at h; omega) _).setCell (fun h => by simp only [From] at h; omega) _).setCell (fun h => by simp only [From] at h; omega) _).setCell (fun h => by simp only [From] at h; omega) _).setCell (fun h => by simp only [From] at h; omega) _)
          rw [hw9]
          obtain ⟨e0, e1, e2, e3, _⟩ := box4p hr9
          refine bodyPost_ret (v := .tuple #[.agg #[.bool false, .slice A9 acc.length c9, .slice K2 q.1.length k2, .slice V2 q.2.length v2], .int .i64 0]) (by simp [results, Tryd.results39, go_sem, e0, e1, e2, e3]) rfl ?_
          rw [Hv.out]
          exact ⟨A9, c9, K2, k2, V2, v2, rfl, (Hs9.out.same stR_stays hS9).lo stR_stays Hb0.out.size, (hs2a.bsame hS8).blo Hbw.out.size, (hs2b.bsame hS8).blo Hbw.out.size, hb9⟩
  · have Hv := Lib.hid (show proveS l k = (pf0, pkFault l k) by rw [proveS, if_pos hf])
    have hb : (ge != 0) = true := by rw [Hge.out]; simpa using hf
    clear hf
    go_enter Tryd.func39, Tryd.ntmps39
    go_wp2_with (go_at_call 78; (with_reducible refine (treeGet_ok _ A l c K k kc ?h1 ?h2).mono ?_); (case h1 => (refine Ha.out.below pairR_stays ?_; repeat' (first | exact Below.refl _ _ | assumption | refine Below.drew ?_ | refine below_drewN ?_ _ | refine Below.setCell ?_ (by first | (simp; done) | omega | (simp; omega)) _ | refine Below.alloc ?_ (by first | exact Nat.le_refl _ | omega | (simp; done) | (simp; omega)) _))); (case h2 => (refine Hk.out.bbelow ?_; repeat' (first | exact Below.refl _ _ | assumption | refine Below.drew ?_ | refine below_drewN ?_ _ | refine Below.setCell ?_ (by first | (simp; done) | omega | (simp; omega)) _ | refine Below.alloc ?_ (by first | exact Nat.le_refl _ | omega | (simp; done) | (simp; omega)) _))); rw [Hget.out]; rintro e1 w1 ⟨V1, v1, rfl, _, hb1⟩; have hq1 : Below w.heap.size w w1 := (Below.next (by repeat' (first | exact Below.refl _ _ | assumption | refine Below.drew ?_ | refine below_drewN ?_ _ | refine Below.setCell ?_ (by first | (simp; done) | omega | (simp; omega)) _ | refine Below.alloc ?_ (by first | exact Nat.le_refl _ | omega | (simp; done) | (simp; omega)) _)) hb1 (by simp)); have hx1 := (hb1.block w.heap.size (by simp)).trans Hz0.out; have hlt1 : w.heap.size < w1.heap.size := (Array.getElem?_eq_some_iff.1 hx1).1; obtain ⟨r0, r1, r2, r3, r4, r5, r6, r7⟩ := box4p hx1)
    obtain ⟨w2, hw2⟩ : ∃ w2, (((((w1.setCell ⟨w.heap.size, 0, none⟩ (.bool false)).setCell ⟨w.heap.size, 1, none⟩ (.slice none 0 0)).setCell ⟨w.heap.size, 2, none⟩ (.slice none 0 0)).setCell ⟨w.heap.size, 3, none⟩ (.slice none 0 0)).alloc (.cells #[.bool gf, .slice V1 gv.length v1] 29)) = w2 := ⟨_, rfl⟩
    have hz2 : w2.heap[w.heap.size]? = some (.cells #[.bool false, .slice none 0 0, .slice none 0 0, .slice none 0 0] 27 (0, 0)) := by
      rw [← hw2]
      rw [heap_alloc_old _ _ (by simpa using hlt1), heap_setCell_same _ _ _ _ _ _ (heap_setCell_same _ _ _ _ _ _ (heap_setCell_same _ _ _ _ _ _ (heap_setCell_same _ _ _ _ _ _ hx1)))]
      rfl
    have hb2 : Below w.heap.size w w2 := by
      rw [← hw2]
      exact ((((hq1.setCell (Nat.le_refl _) _).setCell (Nat.le_refl _) _).setCell (Nat.le_refl _) _).setCell (Nat.le_refl _) _).alloc (by simpa using hq1.size) _
    rw [hw2]
    obtain ⟨e0, e1, e2, e3, _⟩ := box4p hz2
    refine bodyPost_ret (v := .tuple #[.agg #[.bool false, .slice none 0 0, .slice none 0 0, .slice none 0 0], .int .i64 ge]) (by simp [results, Tryd.results39, go_sem, e0, e1, e2, e3]) rfl ?_
    rw [Hv.out, Hge.out]
    exact ⟨none, 0, none, 0, none, 0, rfl, SL.nil, SL.nil, SL.nil, hb2⟩
end Go.Proofs.YteacjkihjeiafaaDoor
namespace Go.Proofs.YteacjkihjeiafaaDoor
open Go.RowKit
set_option linter.unusedVariables false
set_option linter.unusedSimpArgs false

set_option maxRecDepth 100000 in
set_option maxHeartbeats 8000000 in
theorem proofOf_ok (w : World) (A : Option Addr) (l : List Pr) (c : Nat) (K : Option Addr) (k : List UInt8) (kc : Nat) (ha : Ps All w A l) (hk : Bs All w K k) :
    Calls Tryd.prog 46 #[.slice A l.length c, .slice K k.length kc] w (RetPfE w (proveS l k)) := by
  obtain ⟨i0, hi0, hy0, hy1, hy2⟩ := info_parts info_st
  have Ha := Lib.hid ha
  have Hk := Lib.hid hk
  clear ha hk
  obtain ⟨ge, hge⟩ : ∃ ge, pkFault l k = ge := ⟨_, rfl⟩
  have Hge := Lib.hid hge.symm
  have Hget := Lib.hid hge
  clear hge
  have Hz0 := Lib.hid (box_new w #[.bool false, .slice none 0 0, .slice none 0 0, .slice none 0 0] 27)
  by_cases hf : pkFault l k = 0
  · have hge0 : ge = 0 := Hge.out.trans hf
    subst hge0
    by_cases h0 : l.length = 0
    · have Hv := Lib.hid (show proveS l k = (⟨true, [], ([], [])⟩, 0) by rw [proveS, if_neg (by simpa using hf), if_pos h0])
      have hz : ((l.length : Int) == 0) = true := by simp [h0]
      have hz' : decide ((l.length : Int) = 0) = true := by simp [h0]
      clear hf h0
      go_enter Tryd.func46, Tryd.ntmps46
      go_wp2_with (go_at_call 84; (with_reducible refine (pairsAndKey_ok _ A l c K k kc ?h1).mono ?_); (case h1 => (refine Ha.out.below pairR_stays ?_; repeat' (first | exact Below.refl _ _ | assumption | refine Below.drew ?_ | refine below_drewN ?_ _ | refine Below.setCell ?_ (by first | (simp; done) | omega | (simp; omega)) _ | refine Below.alloc ?_ (by first | exact Nat.le_refl _ | omega | (simp; done) | (simp; omega)) _))); rw [Hget.out]; rintro e1 w1 ⟨rfl, hb1⟩; have hq1 : Below w.heap.size w w1 := (Below.next (by repeat' (first | exact Below.refl _ _ | assumption | refine Below.drew ?_ | refine below_drewN ?_ _ | refine Below.setCell ?_ (by first | (simp; done) | omega | (simp; omega)) _ | refine Below.alloc ?_ (by first | exact Nat.le_refl _ | omega | (simp; done) | (simp; omega)) _)) hb1 (by simp)); have hx1 := (hb1.block w.heap.size (by simp)).trans Hz0.out; have hlt1 : w.heap.size < w1.heap.size := (Array.getElem?_eq_some_iff.1 hx1).1; obtain ⟨r0, r1, r2, r3, r4, r5, r6, r7⟩ := box4p hx1)
      obtain ⟨w2, hw2⟩ : ∃ w2, ((((w1.setCell ⟨w.heap.size, 0, none⟩ (.bool true)).setCell ⟨w.heap.size, 1, none⟩ (.slice none 0 0)).setCell ⟨w.heap.size, 2, none⟩ (.slice none 0 0)).setCell ⟨w.heap.size, 3, none⟩ (.slice none 0 0)) = w2 := ⟨_, rfl⟩
      have hz2 : w2.heap[w.heap.size]? = some (.cells #[.bool true, .slice none 0 0, .slice none 0 0, .slice none 0 0] 27 (0, 0)) := by
        rw [← hw2]
        rw [heap_setCell_same _ _ _ _ _ _ (heap_setCell_same _ _ _ _ _ _ (heap_setCell_same _ _ _ _ _ _ (heap_setCell_same _ _ _ _ _ _ hx1)))]
        rfl
      have hb2 : Below w.heap.size w w2 := by
        rw [← hw2]
        exact (((hq1.setCell (Nat.le_refl _) _).setCell (Nat.le_refl _) _).setCell (Nat.le_refl _) _).setCell (Nat.le_refl _) _
      rw [hw2]
      obtain ⟨e0, e1, e2, e3, _⟩ := box4p hz2
      refine bodyPost_ret (v := .tuple #[.agg #[.bool true, .slice none 0 0, .slice none 0 0, .slice none 0 0], .int .i64 0]) (by simp [results, Tryd.results46, go_sem, e0, e1, e2, e3]) rfl ?_
      rw [Hv.out]
      exact ⟨none, 0, none, 0, none, 0, rfl, SL.nil, SL.nil, SL.nil, hb2⟩
    · obtain ⟨SS, E, hSE⟩ : ∃ SS E, pathF k l.length l = (SS, E) := ⟨_, _, rfl⟩
      have Hv := Lib.hid (show proveS l k = (⟨false, SS, E.getD 0 ([], [])⟩, 0) by rw [proveS, if_neg (by simpa using hf), if_neg h0, hSE])
      obtain ⟨hpf, hkf⟩ := pk_fine hf
      have Hkf := Lib.hid hkf
      have Ht := Lib.hid (tree_of hpf)
      have H60 := Lib.hid (pairs_fine hpf).1
      have H1 := Lib.hid (show 1 ≤ l.length by omega)
      have HSE := Lib.hid hSE
      have hz : ((l.length : Int) == 0) = false := by rw [beq_eq_false_iff_ne]; omega
      have hz' : decide ((l.length : Int) = 0) = false := decide_eq_false (by omega)
      clear hf h0 hSE hpf hkf
      go_enter Tryd.func46, Tryd.ntmps46
      go_wp2_with (first
        | (go_at_call 84; (with_reducible refine (pairsAndKey_ok _ A l c K k kc ?h1).mono ?_); (case h1 => (refine Ha.out.below pairR_stays ?_; repeat' (first | exact Below.refl _ _ | assumption | refine Below.drew ?_ | refine below_drewN ?_ _ | refine Below.setCell ?_ (by first | (simp; done) | omega | (simp; omega)) _ | refine Below.alloc ?_ (by first | exact Nat.le_refl _ | omega | (simp; done) | (simp; omega)) _))); rw [Hget.out]; rintro e1 w1 ⟨rfl, hb1⟩; have hq1 : Below w.heap.size w w1 := (Below.next (by repeat' (first | exact Below.refl _ _ | assumption | refine Below.drew ?_ | refine below_drewN ?_ _ | refine Below.setCell ?_ (by first | (simp; done) | omega | (simp; omega)) _ | refine Below.alloc ?_ (by first | exact Nat.le_refl _ | omega | (simp; done) | (simp; omega)) _)) hb1 (by simp)); have hx1 := (hb1.block w.heap.size (by simp)).trans Hz0.out; have hlt1 : w.heap.size < w1.heap.size := (Array.getElem?_eq_some_iff.1 hx1).1; obtain ⟨r0, r1, r2, r3, r4, r5, r6, r7⟩ := box4p hx1)
        | (go_at_call 85; (with_reducible refine (allBits_ok _ K k kc ?ha (key16 Hkf.out)).mono ?_); (case ha => exact Hk.out.bbelow (hq1.alloc hq1.size _)); rintro eb wb ⟨KB, cb, rfl, hsb, hbb⟩))
      obtain ⟨W0, rfl⟩ : ∃ W0, W0 = wb := ⟨_, rfl⟩
      have hG0 := (hbb.block w1.heap.size (by simp)).trans (box_new w1 #[.bool false, .slice none 0 0, .slice none 0 0, .slice none 0 0] 27)
      have hGs : w1.heap.size < W0.heap.size := (Array.getElem?_eq_some_iff.1 hG0).1
      have hR0 := (hbb.block w.heap.size (by simp; omega)).trans ((heap_alloc_old _ _ hlt1).trans hx1)
      have hb0 : Below w.heap.size w W0 := (hq1.alloc hq1.size _).next hbb (by have := hq1.size; simp; omega)
      have hRG : w.heap.size < w1.heap.size := hlt1
      have HR0 := Lib.hid hR0
      have HG0 := Lib.hid hG0
      have Hb0 := Lib.hid hb0
      have Hbits := Lib.hid (hsb.less boolR_stays (S' := fun b => b < W0.heap.size ∧ b ≠ w1.heap.size) fun b hb h => ⟨hb, by simp only [From] at h; simp at h; omega⟩)
      have K16 := Lib.hid (key16 Hkf.out)
      have H145 := Lib.hid (all145_len K16.out)
      rw [H145.out]
      clear hR0 hG0 hb0 hb1 hq1 hx1 r0 r1 r2 r3 r4 r5 r6 r7 hz hz' hbb hsb
      go_loopw [0] (fun lv wr => PvI false k W0 w1.heap.size SS E lv wr ∧ Same (fun b => b < W0.heap.size ∧ b ≠ w1.heap.size) W0 wr) (fun lv _ => lenOf lv)
      case atStart =>
        refine ⟨⟨l.length, l, A, c, [], _, rfl, nofun, H1.out, H60.out, by omega, by have := H60.out; simp; omega, Ht.out, ?_, ?_, ?_, Own.nil _ _ _, HG0.out, Below.refl _ _⟩, Same.refl _ _⟩
        · refine ((Ha.out.less pairR_stays (S' := fun b => b < w.heap.size) fun b hb _ => hb).same pairR_stays ⟨Hb0.out.size, fun b hb _ => Hb0.out.block b hb⟩).less pairR_stays fun b _ hb => ⟨by omega, fun h => by cases h⟩
        · rw [HSE.out]; rfl
        · rw [HSE.out]
      case round =>
        obtain ⟨⟨n, l', A', c', acc, v, rfl, _, hl1, hl60, hln, hal, htr, hps, hSS, hEE, hown, hbx, hbel⟩, hsm⟩ := hrel
        have Hsm := Lib.hid hsm
        clear hsm
        have Hps := Lib.hid hps
        have Hown := Lib.hid hown
        have Hbx := Lib.hid hbx
        have Hbel := Lib.hid hbel
        have Htr := Lib.hid htr
        have hzr := hbel.size
        by_cases hlt : 1 < l'.length
        · have hki : (1 : Int) < (l'.length : Int) := by omega
          obtain ⟨d, hp⟩ := htr.parts (by omega)
          obtain ⟨hn1, hn2, _⟩ := left_lt hp (by omega)
          have Hpar := Lib.hid (fun W hW => sides_okS (fun b => b ≠ w1.heap.size ∧ v.ownBlock ≠ some b) W A' l' c' d hW hp (by omega) hl60 htr)
          obtain ⟨gb, ob, rfl, hgb, hbit⟩ := bit_at (Hbits.out.same boolR_stays Hsm.out) K16.out (n := d) (by have := hp.d144; omega)
          have hd145 : (d : Int) < 145 := by have := hp.d144; omega
          have Hd := Lib.hid hp.d144
          obtain ⟨m, rfl⟩ : ∃ m, n = m + 1 := ⟨n - 1, by omega⟩
          have Htx := Lib.hid (htr.take (leftN l'))
          have Hty := Lib.hid (htr.drop (leftN l'))
          have Hlx := Lib.hid (show (l'.take (leftN l')).length = leftN l' by rw [List.length_take]; omega)
          have Hly := Lib.hid (show (l'.drop (leftN l')).length = l'.length - leftN l' by rw [List.length_drop])
          have Hln := Lib.hid (show 1 ≤ leftN l' ∧ leftN l' ≤ l'.length - 1 from ⟨hn1, hn2⟩)
          rcases Bool.eq_false_or_eq_true (bitB k d) with hb | hb
          · rw [path_right hp (by omega) hb] at hSS hEE
            rw [hb] at hbit
            have Hb := Lib.hid hb
            have HrO := Lib.hid (rootE_tree Htx.out (by rw [Hlx.out]; omega))
            have Hfin := Lib.hid (show Hty = Hty from rfl)
            generalize hxx : l'.take (leftN l') = x at *
            generalize hyy : l'.drop (leftN l') = y at *
            generalize hkk : leftN l' = kk at *
            have hzr' : w1.heap.size < wr.heap.size := by omega
            have H6 := Lib.hid (show x.length ≤ 60 by have := Hlx.out; have := Hln.out; omega)
            clear hxx hyy hkk Hfin hn1 hn2 hl1
            go_wp2_with (first
              | (go_at_call 86; (with_reducible refine (Hpar.out _ Hps.out).mono ?_); rintro e2 w2 ⟨X, cx, Y, cy, rfl, _, _, hsx', hsy', hb2⟩; have hz2 := hb2.size; have hg2 := (hb2.block (w1.heap.size) hzr').trans Hbx.out; have hw2 : Below w.heap.size w w2 := (Hb0.out.trans (Hbel.out.mono (by omega))).next hb2 (by have := Hb0.out.size; omega); have hsx : Ps (fun b => b ≠ w1.heap.size ∧ v.ownBlock ≠ some b) w2 X x := (hsx'.less pairR_stays fun b _ h => h.elim id fun h => ⟨by simp only [From] at h; omega, Hown.out.apart _ (Nat.le_refl _) b h⟩); have hsy : Ps (fun b => b ≠ w1.heap.size ∧ v.ownBlock ≠ some b) w2 Y y := (hsy'.less pairR_stays fun b _ h => h.elim id fun h => ⟨by simp only [From] at h; omega, Hown.out.apart _ (Nat.le_refl _) b h⟩); have hcell2 := (hb2.cell (p := ⟨gb, ob + d, none⟩) hgb).trans hbit; have hgb2 : gb < w2.heap.size := (by omega); clear hsx' hsy')
              | (go_at_call 64; (with_reducible refine (rootOf_ok _ X x cx ?ha H6.out Htx.out).mono ?_); (case ha => exact ((hsx.less pairR_stays (S' := fun b => b < w2.heap.size) fun b hb _ => hb).same pairR_stays ((Same.refl _ _).alloc _)).z pairR_stays); rintro e4 w4 ⟨B, bc, rfl, hsB, hb4⟩; have hs4 := (hb4.block w2.heap.size (by simp)).trans (box_new w2 _ _); obtain ⟨t0, t1, t2, t3, t4, t5⟩ := box3p hs4; have hz4 : w2.heap.size < w4.heap.size := (Array.getElem?_eq_some_iff.1 hs4).1; have hg4 := (hb4.block (w1.heap.size) (by simp; omega)).trans ((heap_alloc_old _ _ (by omega)).trans hg2); have hg5 := (Below.heap_setCell w4 ⟨w2.heap.size, 2, none⟩ (.slice B (rootS x).length bc) (w1.heap.size) (by simp only []; omega)).trans hg4; obtain ⟨ga0, ga1, ga2, ga3, _⟩ := box4p hg5; have hw4 : Below w.heap.size w w4 := (hw2.alloc hw2.size _).next hb4 (by have := hw2.size; simp; omega); have hr4 : Below wr.heap.size wr w4 := (hb2.alloc hz2 _).next hb4 (by simp; omega))
              | (at_builtin; refine wpl_snocR stR_stays (S := From W0.heap.size) _ rfl _ _ _ rfl W0.heap.size 70 i0 _ 3 40 Tryd.underlying23 hi0 hy0 hy1 hy2 rfl (by decide) v acc rfl ?hown _ _ [.int .i64 (d : Int), .bool true, .slice B (rootS x).length bc] rfl rfl (new_src _ _ [.int .i64 (d : Int), .bool true, .slice B (rootS x).length bc] _ (by simp)) (by simp [Value.oneCell']) ?hm ?hby ?hba ⟨d, true, rootS x⟩ ?hd ?_; (case hown => exact Own.below stR_stays Hown.out ((hr4.setCell (by simp only []; omega) _).alloc (by simp; omega) _)); (case hm => (simp only [maxLen]; omega)); (case hby => omega); (case hba => (simp; omega)); (case hd => exact st_fresh (n := w2.heap.size + 1) (x := ⟨d, true, rootS x⟩) (hsB.blo (by simp)) (by rw [rootS_len]; simp [big]) (((Same.refl _ _).setCell (fun h => by simp only [From] at h; omega) _).alloc _) (by omega) (fun b hb => Hown.out.apart (w2.heap.size + 1) (by omega) b hb)); intro v6 w6 hown6 hbw6 hgr hat; obtain ⟨A6, c6, rfl⟩ := own_len hown6; have hg6 := (hbw6.block (w1.heap.size) (by omega)).trans ((heap_alloc_old _ _ (by simp; omega)).trans hg5); obtain ⟨gf0, gf1, gf2, gf3, gf4, gf5, gf6, gf7⟩ := box4p hg6; have hz6 : w1.heap.size < w6.heap.size := (Array.getElem?_eq_some_iff.1 hg6).1))
            have hS : Same (fun b => (b ≠ w1.heap.size ∧ v.ownBlock ≠ some b) ∧ b < w2.heap.size) w2 (w6.setCell ⟨w1.heap.size, 1, none⟩ (.slice A6 (acc.length + 1) c6)) :=
              ((((((Same.refl _ _).alloc _).trans (Same.of_below hb4)).setCell (fun h => by have := h.2; simp only [] at this; omega) _).alloc _).grown hgr (fun b hb h => h.1.2 hb)).setCell (fun h => h.1.1 rfl) _
            have hS7 : Same (fun b => b < W0.heap.size ∧ b ≠ w1.heap.size) W0 (w6.setCell ⟨w1.heap.size, 1, none⟩ (.slice A6 (acc.length + 1) c6)) :=
              ((((((Hsm.out.trans (Same.of_below hb2)).alloc _).trans (Same.of_below hb4)).setCell (fun h => by have := h.1; simp only [] at this; omega) _).alloc _).trans (Same.of_less hbw6 (fun k h => h.1))).setCell (fun h => h.2 rfl) _
            have hly := Hly.out
            have hln := Hln.out
            refine ⟨⟨⟨m, y, Y, cy, acc ++ [⟨d, true, rootS x⟩], .slice A6 (acc ++ [(⟨d, true, rootS x⟩ : St)]).length c6, rfl, nofun, by omega, by omega, by omega, by simp; omega, Hty.out, ?_, ?_, hEE, ?_, ?_, ?_⟩, hS7⟩, show y.length < l'.length by omega⟩
            · refine ((hsy.less pairR_stays (S' := fun b => (b ≠ w1.heap.size ∧ v.ownBlock ≠ some b) ∧ b < w2.heap.size) fun b hb h => ⟨h, hb⟩).same pairR_stays hS).less pairR_stays fun b _ h => ⟨h.1.1, ?_⟩
              rcases hat with ht | ht
              · rw [ht]; exact h.1.2
              · rw [ht]
                have q1 := h.2
                intro hq
                injection hq with hq
                simp at hq
                omega
            · rw [List.append_assoc]; exact hSS
            · exact Own.same_from3 stR_stays hown6 ((Same.refl _ _).setCell (fun h => by simp only [From] at h; omega) _)
            · rw [heap_setCell_same _ _ _ _ _ _ hg6]; simp
            · exact ((((Hbel.out.trans (hr4.mono (by omega))).setCell (by simp only []; omega) _).alloc (by simp; omega) _).trans (hbw6.mono (by omega))).setCell (Nat.le_refl _) _
          · rw [path_left hp (by omega) hb] at hSS hEE
            rw [hb] at hbit
            have Hb := Lib.hid hb
            have HrO := Lib.hid (rootE_tree Hty.out (by rw [Hly.out]; omega))
            have Hfin := Lib.hid (show Htx = Htx from rfl)
            generalize hxx : l'.take (leftN l') = x at *
            generalize hyy : l'.drop (leftN l') = y at *
            generalize hkk : leftN l' = kk at *
            have hzr' : w1.heap.size < wr.heap.size := by omega
            have H6 := Lib.hid (show y.length ≤ 60 by have := Hly.out; have := Hln.out; omega)
            clear hxx hyy hkk Hfin hn1 hn2 hl1
            go_wp2_with (first
              | (go_at_call 86; (with_reducible refine (Hpar.out _ Hps.out).mono ?_); rintro e2 w2 ⟨X, cx, Y, cy, rfl, _, _, hsx', hsy', hb2⟩; have hz2 := hb2.size; have hg2 := (hb2.block (w1.heap.size) hzr').trans Hbx.out; have hw2 : Below w.heap.size w w2 := (Hb0.out.trans (Hbel.out.mono (by omega))).next hb2 (by have := Hb0.out.size; omega); have hsx : Ps (fun b => b ≠ w1.heap.size ∧ v.ownBlock ≠ some b) w2 X x := (hsx'.less pairR_stays fun b _ h => h.elim id fun h => ⟨by simp only [From] at h; omega, Hown.out.apart _ (Nat.le_refl _) b h⟩); have hsy : Ps (fun b => b ≠ w1.heap.size ∧ v.ownBlock ≠ some b) w2 Y y := (hsy'.less pairR_stays fun b _ h => h.elim id fun h => ⟨by simp only [From] at h; omega, Hown.out.apart _ (Nat.le_refl _) b h⟩); have hcell2 := (hb2.cell (p := ⟨gb, ob + d, none⟩) hgb).trans hbit; have hgb2 : gb < w2.heap.size := (by omega); clear hsx' hsy')
              | (go_at_call 64; (with_reducible refine (rootOf_ok _ Y y cy ?ha H6.out Hty.out).mono ?_); (case ha => exact ((hsy.less pairR_stays (S' := fun b => b < w2.heap.size) fun b hb _ => hb).same pairR_stays ((Same.refl _ _).alloc _)).z pairR_stays); rintro e4 w4 ⟨B, bc, rfl, hsB, hb4⟩; have hs4 := (hb4.block w2.heap.size (by simp)).trans (box_new w2 _ _); obtain ⟨t0, t1, t2, t3, t4, t5⟩ := box3p hs4; have hz4 : w2.heap.size < w4.heap.size := (Array.getElem?_eq_some_iff.1 hs4).1; have hg4 := (hb4.block (w1.heap.size) (by simp; omega)).trans ((heap_alloc_old _ _ (by omega)).trans hg2); have hg5 := (Below.heap_setCell w4 ⟨w2.heap.size, 2, none⟩ (.slice B (rootS y).length bc) (w1.heap.size) (by simp only []; omega)).trans hg4; obtain ⟨ga0, ga1, ga2, ga3, _⟩ := box4p hg5; have hw4 : Below w.heap.size w w4 := (hw2.alloc hw2.size _).next hb4 (by have := hw2.size; simp; omega); have hr4 : Below wr.heap.size wr w4 := (hb2.alloc hz2 _).next hb4 (by simp; omega))
              | (at_builtin; refine wpl_snocR stR_stays (S := From W0.heap.size) _ rfl _ _ _ rfl W0.heap.size 70 i0 _ 3 40 Tryd.underlying23 hi0 hy0 hy1 hy2 rfl (by decide) v acc rfl ?hown _ _ [.int .i64 (d : Int), .bool false, .slice B (rootS y).length bc] rfl rfl (new_src _ _ [.int .i64 (d : Int), .bool false, .slice B (rootS y).length bc] _ (by simp)) (by simp [Value.oneCell']) ?hm ?hby ?hba ⟨d, false, rootS y⟩ ?hd ?_; (case hown => exact Own.below stR_stays Hown.out ((hr4.setCell (by simp only []; omega) _).alloc (by simp; omega) _)); (case hm => (simp only [maxLen]; omega)); (case hby => omega); (case hba => (simp; omega)); (case hd => exact st_fresh (n := w2.heap.size + 1) (x := ⟨d, false, rootS y⟩) (hsB.blo (by simp)) (by rw [rootS_len]; simp [big]) (((Same.refl _ _).setCell (fun h => by simp only [From] at h; omega) _).alloc _) (by omega) (fun b hb => Hown.out.apart (w2.heap.size + 1) (by omega) b hb)); intro v6 w6 hown6 hbw6 hgr hat; obtain ⟨A6, c6, rfl⟩ := own_len hown6; have hg6 := (hbw6.block (w1.heap.size) (by omega)).trans ((heap_alloc_old _ _ (by simp; omega)).trans hg5); obtain ⟨gf0, gf1, gf2, gf3, gf4, gf5, gf6, gf7⟩ := box4p hg6; have hz6 : w1.heap.size < w6.heap.size := (Array.getElem?_eq_some_iff.1 hg6).1))
            have hS : Same (fun b => (b ≠ w1.heap.size ∧ v.ownBlock ≠ some b) ∧ b < w2.heap.size) w2 (w6.setCell ⟨w1.heap.size, 1, none⟩ (.slice A6 (acc.length + 1) c6)) :=
              ((((((Same.refl _ _).alloc _).trans (Same.of_below hb4)).setCell (fun h => by have := h.2; simp only [] at this; omega) _).alloc _).grown hgr (fun b hb h => h.1.2 hb)).setCell (fun h => h.1.1 rfl) _
            have hS7 : Same (fun b => b < W0.heap.size ∧ b ≠ w1.heap.size) W0 (w6.setCell ⟨w1.heap.size, 1, none⟩ (.slice A6 (acc.length + 1) c6)) :=
              ((((((Hsm.out.trans (Same.of_below hb2)).alloc _).trans (Same.of_below hb4)).setCell (fun h => by have := h.1; simp only [] at this; omega) _).alloc _).trans (Same.of_less hbw6 (fun k h => h.1))).setCell (fun h => h.2 rfl) _
            have hly := Hlx.out
            have hln := Hln.out
            refine ⟨⟨⟨m, x, X, cx, acc ++ [⟨d, false, rootS y⟩], .slice A6 (acc ++ [(⟨d, false, rootS y⟩ : St)]).length c6, rfl, nofun, by omega, by omega, by omega, by simp; omega, Htx.out, ?_, ?_, hEE, ?_, ?_, ?_⟩, hS7⟩, show x.length < l'.length by omega⟩
            · refine ((hsx.less pairR_stays (S' := fun b => (b ≠ w1.heap.size ∧ v.ownBlock ≠ some b) ∧ b < w2.heap.size) fun b hb h => ⟨h, hb⟩).same pairR_stays hS).less pairR_stays fun b _ h => ⟨h.1.1, ?_⟩
              rcases hat with ht | ht
              · rw [ht]; exact h.1.2
              · rw [ht]
                have q1 := h.2
                intro hq
                injection hq with hq
                simp at hq
                omega
            · rw [List.append_assoc]; exact hSS
            · exact Own.same_from3 stR_stays hown6 ((Same.refl _ _).setCell (fun h => by simp only [From] at h; omega) _)
            · rw [heap_setCell_same _ _ _ _ _ _ hg6]; simp
            · exact ((((Hbel.out.trans (hr4.mono (by omega))).setCell (by simp only []; omega) _).alloc (by simp; omega) _).trans (hbw6.mono (by omega))).setCell (Nat.le_refl _) _
        · have hl1' : l'.length = 1 := by omega
          have hki : ¬ (1 : Int) < (l'.length : Int) := by omega
          rw [path_one (by omega)] at hSS hEE
          simp only [List.append_nil] at hSS
          subst hSS hEE
          obtain ⟨q, rfl⟩ := List.length_eq_one_iff.1 hl1'
          obtain ⟨g, off, K0, c0, V0, d0, rfl, hgS, hgl, q0, q1, hs0, hs1, hbK, hbV⟩ := pairs_at Hps.out (k := 0) (by simp)
          simp only [Nat.zero_mul, Nat.add_zero, List.getElem_cons_zero] at q0 q1 hs0 hs1 hbK hbV
          have Hs0 := Lib.hid hs0.bz
          have Hs1 := Lib.hid hs1.bz
          obtain ⟨A9, c9, rfl, _, hs9⟩ := Hown.out.readc stR_stays
          have Hs9 := Lib.hid hs9
          have hR1 := (Hbel.out.block w.heap.size hRG).trans HR0.out
          have HR1 := Lib.hid hR1
          have hzr' : w1.heap.size < wr.heap.size := by omega
          have Hbw := Lib.hid (Hb0.out.trans (Hbel.out.mono (by omega)))
          clear hs0 hs1 hs9 hR1 hlt hki hl1 hl1' hl60 hln hal htr
          go_wp2_with ((go_at_call 87; (with_reducible refine (pairCopy_ok _ K0 V0 q c0 d0 Hs0.out Hs1.out hbK hbV).mono ?_); rintro e2 w2 ⟨K2, k2, V2, v2, rfl, hs2a, hs2b, hb2⟩; have hg2 := (hb2.block (w1.heap.size) hzr').trans Hbx.out; have hr2 := (hb2.block w.heap.size (by omega)).trans HR1.out; have hz2 := hb2.size; obtain ⟨ga0, ga1, ga2, ga3, ga4, ga5, ga6, ga7⟩ := box4p hg2; obtain ⟨gr0, gr1, gr2, gr3, gr4, gr5, gr6, gr7⟩ := box4p hr2; have hzg2 : w1.heap.size < w2.heap.size := (by omega); have hzr2 : w.heap.size < w2.heap.size := (by omega)))
          obtain ⟨w9, hw9⟩ : ∃ w9, ((((((w2.setCell ⟨w1.heap.size, 2, none⟩ (.slice K2 q.1.length k2)).setCell ⟨w1.heap.size, 3, none⟩ (.slice V2 q.2.length v2)).setCell ⟨w.heap.size, 0, none⟩ (.bool false)).setCell ⟨w.heap.size, 1, none⟩ (.slice A9 acc.length c9)).setCell ⟨w.heap.size, 2, none⟩ (.slice K2 q.1.length k2)).setCell ⟨w.heap.size, 3, none⟩ (.slice V2 q.2.length v2)) = w9 := ⟨_, rfl⟩
          have hr9 : w9.heap[w.heap.size]? = some (.cells #[.bool false, .slice A9 acc.length c9, .slice K2 q.1.length k2, .slice V2 q.2.length v2] 27 (0, 0)) := by
            rw [← hw9, heap_setCell_same _ _ _ _ _ _ (heap_setCell_same _ _ _ _ _ _ (heap_setCell_same _ _ _ _ _ _ (heap_setCell_same _ _ _ _ _ _ ((Below.heap_setCell _ _ _ _ (by simp only []; omega)).trans ((Below.heap_setCell _ _ _ _ (by simp only []; omega)).trans hr2)))))]
            rfl
          have hb9 : Below w.heap.size w w9 := by rw [← hw9]; exact (((((((Hbw.out.next hb2 Hbw.out.size).setCell (by simp only []; omega) _).setCell (by simp only []; omega) _).setCell (by simp only []; omega) _).setCell (by simp only []; omega) _).setCell (by simp only []; omega) _).setCell (by simp only []; omega) _)
          have hS9 : Same (From W0.heap.size) wr w9 := by rw [← hw9]; exact (((((((Same.of_below hb2).setCell (fun h => by simp only [From] at h; omega) _).setCell (fun h => by simp only [From] at h; omega) _).setCell (fun h => by simp only [From] at h; omega) _).setCell (fun h => by simp only [From] at h; omega) _).setCell (fun h => by simp only [From] at h; omega) _).setCell (fun h => by simp only [From] at h; omega) _)
          have hS8 : Same (From wr.heap.size) w2 w9 := by rw [← hw9]; exact (((((((Same.refl _ _).setCell (fun h => by simp only [From] at h; omega) _).setCell (fun h => by simp only [From] at h; omega) _).setCell (fun h => by simp only [From] at h; omega) _).setCell (fun h => by simp only [From] at h; omega) _).setCell (fun h => by simp only [From] at h; omega) _).setCell (fun h => by simp only [From] at h; omega) _)
          rw [hw9]
          obtain ⟨e0, e1, e2, e3, _⟩ := box4p hr9
          refine bodyPost_ret (v := .tuple #[.agg #[.bool false, .slice A9 acc.length c9, .slice K2 q.1.length k2, .slice V2 q.2.length v2], .int .i64 0]) (by simp [results, Tryd.results46, go_sem, e0, e1, e2, e3]) rfl ?_
          rw [Hv.out]
          exact ⟨A9, c9, K2, k2, V2, v2, rfl, (Hs9.out.same stR_stays hS9).lo stR_stays Hb0.out.size, (hs2a.bsame hS8).blo Hbw.out.size, (hs2b.bsame hS8).blo Hbw.out.size, hb9⟩
  · have Hv := Lib.hid (show proveS l k = (pf0, pkFault l k) by rw [proveS, if_pos hf])
    have hb : (ge != 0) = true := by rw [Hge.out]; simpa using hf
    clear hf
    go_enter Tryd.func46, Tryd.ntmps46
    go_wp2_with (go_at_call 84; (with_reducible refine (pairsAndKey_ok _ A l c K k kc ?h1).mono ?_); (case h1 => (refine Ha.out.below pairR_stays ?_; repeat' (first | exact Below.refl _ _ | assumption | refine Below.drew ?_ | refine below_drewN ?_ _ | refine Below.setCell ?_ (by first | (simp; done) | omega | (simp; omega)) _ | refine Below.alloc ?_ (by first | exact Nat.le_refl _ | omega | (simp; done) | (simp; omega)) _))); rw [Hget.out]; rintro e1 w1 ⟨rfl, hb1⟩; have hq1 : Below w.heap.size w w1 := (Below.next (by repeat' (first | exact Below.refl _ _ | assumption | refine Below.drew ?_ | refine below_drewN ?_ _ | refine Below.setCell ?_ (by first | (simp; done) | omega | (simp; omega)) _ | refine Below.alloc ?_ (by first | exact Nat.le_refl _ | omega | (simp; done) | (simp; omega)) _)) hb1 (by simp)); have hx1 := (hb1.block w.heap.size (by simp)).trans Hz0.out; have hlt1 : w.heap.size < w1.heap.size := (Array.getElem?_eq_some_iff.1 hx1).1; obtain ⟨r0, r1, r2, r3, r4, r5, r6, r7⟩ := box4p hx1)
    obtain ⟨w2, hw2⟩ : ∃ w2, ((((w1.setCell ⟨w.heap.size, 0, none⟩ (.bool false)).setCell ⟨w.heap.size, 1, none⟩ (.slice none 0 0)).setCell ⟨w.heap.size, 2, none⟩ (.slice none 0 0)).setCell ⟨w.heap.size, 3, none⟩ (.slice none 0 0)) = w2 := ⟨_, rfl⟩
    have hz2 : w2.heap[w.heap.size]? = some (.cells #[.bool false, .slice none 0 0, .slice none 0 0, .slice none 0 0] 27 (0, 0)) := by
      rw [← hw2]
      rw [heap_setCell_same _ _ _ _ _ _ (heap_setCell_same _ _ _ _ _ _ (heap_setCell_same _ _ _ _ _ _ (heap_setCell_same _ _ _ _ _ _ hx1)))]
      rfl
    have hb2 : Below w.heap.size w w2 := by
      rw [← hw2]
      exact (((hq1.setCell (Nat.le_refl _) _).setCell (Nat.le_refl _) _).setCell (Nat.le_refl _) _).setCell (Nat.le_refl _) _
    rw [hw2]
    obtain ⟨e0, e1, e2, e3, _⟩ := box4p hz2
    refine bodyPost_ret (v := .tuple #[.agg #[.bool false, .slice none 0 0, .slice none 0 0, .slice none 0 0], .int .i64 ge]) (by simp [results, Tryd.results46, go_sem, e0, e1, e2, e3]) rfl ?_
    rw [Hv.out, Hge.out]
    exact ⟨none, 0, none, 0, none, 0, rfl, SL.nil, SL.nil, SL.nil, hb2⟩
end Go.Proofs.YteacjkihjeiafaaDoor
namespace Go.Proofs.YteacjkihjeiafaaDoor
open Go.RowKit
set_option linter.unusedVariables false
set_option linter.unusedSimpArgs false

theorem path_len (k : List UInt8) : ∀ (n : Nat) (l : List Pr), (pathF k n l).1.length ≤ n
  | 0, _ => Nat.le_refl _
  | n + 1, l => by
    rw [pathF_next]
    split
    · simp
    · split
      · simpa using path_len k n _
      · simpa using path_len k n _
theorem prove_len (l : List Pr) (k : List UInt8) : (proveS l k).1.steps.length * 40 ≤ 140737488355328 := by
  unfold proveS
  split
  · simp [pf0]
  · split
    · simp
    · rename_i h _
      have h1 := (pairs_fine (pk_fine (Decidable.not_not.1 h)).1).1
      have h2 := path_len k l.length l
      simp only []
      omega
end Go.Proofs.YteacjkihjeiafaaDoor
