/- Walks: pairs copied by package tree; pairs held against each other. -/
import Derived.Test.YtjgdeeabejoegaaDoorPairs
namespace Go.Proofs.YtjgdeeabejoegaaDoor
open Go.RowKit
set_option linter.unusedVariables false
set_option linter.unusedSimpArgs false

set_option maxHeartbeats 400000 in
theorem treeOwn_ok (w : World) (A B : Option Addr) (p : Pr) (c d : Nat) (ha : Bs All w A p.1) (hb : Bs All w B p.2) (h1 : p.1.length ≤ big) (h2 : p.2.length ≤ big) :
    Calls Tryd.prog 139 #[.agg #[.slice A p.1.length c, .slice B p.2.length d]] w (RetPair w p) := by
  have Ha := Lib.hid ha
  have Hb := Lib.hid hb
  clear ha hb
  go_enter Tryd.func139, Tryd.ntmps139
  go_wp2_with fail
  go_region_held3 (fun w' => w'.cell? ⟨w.heap.size, 0, none⟩ = some (.slice A p.1.length c) ∧ w'.cell? ⟨w.heap.size, 1, none⟩ = some (.slice B p.2.length d))
    (first
      | go_keep
      | (go_split_ands; refine ⟨(hb1.cell (by first | (simp; done) | omega | (simp; omega))).trans (by assumption), (hb1.cell (by first | (simp; done) | omega | (simp; omega))).trans (by assumption)⟩)
      | (go_split_ands; refine ⟨(hb2.cell (by have hq1 := hb1.size; simp at hq1 ⊢; omega)).trans (by assumption), (hb2.cell (by have hq1 := hb1.size; simp at hq1 ⊢; omega)).trans (by assumption)⟩))
    (first
      | (go_at_call 61; (with_reducible refine (clone_ok _ A p.1 c ?ha h1).mono ?_); (case ha => (refine Ha.out.bbelow ?_; repeat' (first | exact Below.refl _ _ | assumption | refine Below.drew ?_ | refine below_drewN ?_ _ | refine Below.alloc ?_ (by first | exact Nat.le_refl _ | omega | (simp; done) | (simp; omega)) _))); rintro e w1 ⟨A1, c1, rfl, hs1, hb1⟩)
      | (go_at_call 61; (with_reducible refine (clone_ok _ B p.2 d ?ha h2).mono ?_); (case ha => (refine Hb.out.bbelow (Below.next ?_ hb1 (by first | (simp; done) | omega | (simp; omega))); repeat' (first | exact Below.refl _ _ | assumption | refine Below.drew ?_ | refine below_drewN ?_ _ | refine Below.alloc ?_ (by first | exact Nat.le_refl _ | omega | (simp; done) | (simp; omega)) _))); rintro e w2 ⟨A2, c2, rfl, hs2, hb2⟩; have g0 : w2.cell? ⟨w.heap.size + 1, 0, none⟩ = some (.slice none 0 0) := (hb2.cell (by have hq1 := hb1.size; simp at hq1 ⊢; omega)).trans ((hb1.cell (by first | (simp; done) | omega | (simp; omega))).trans (by simp)); have g1 : w2.cell? ⟨w.heap.size + 1, 1, none⟩ = some (.slice none 0 0) := (hb2.cell (by have hq1 := hb1.size; simp at hq1 ⊢; omega)).trans ((hb1.cell (by first | (simp; done) | omega | (simp; omega))).trans (by simp)); have f0 : w2.frozen? ⟨w.heap.size + 1, 0, none⟩ = false := (hb2.frozen (by have hq1 := hb1.size; simp at hq1 ⊢; omega)).trans ((hb1.frozen (by first | (simp; done) | omega | (simp; omega))).trans (by simp)); have f1 : w2.frozen? ⟨w.heap.size + 1, 1, none⟩ = false := (hb2.frozen (by have hq1 := hb1.size; simp at hq1 ⊢; omega)).trans ((hb1.frozen (by first | (simp; done) | omega | (simp; omega))).trans (by simp))))
  all_goals
    go_wp2
    refine bodyPost_ret (v := .agg #[.slice A1 p.1.length c1, .slice A2 p.2.length c2]) (by simp [results, Tryd.results139, go_sem, g0, g1]) rfl ⟨A1, c1, A2, c2, rfl, ?_, ?_, ?_⟩
    · exact ((hs1.bbelow hb2).bsame (((Same.refl _ _).setCell (fun hq => by simp only [From] at hq; first | omega | (simp at hq; done) | (simp at hq; omega)) _).setCell (fun hq => by simp only [From] at hq; first | omega | (simp at hq; done) | (simp at hq; omega)) _)).blo (by first | (simp; done) | omega | (simp; omega))
    · exact (hs2.bsame (((Same.refl _ _).setCell (fun hq => by have hq1 := hb1.size; simp [From] at hq hq1; omega) _).setCell (fun hq => by have hq1 := hb1.size; simp [From] at hq hq1; omega) _)).blo (by have hq1 := hb1.size; simp at hq1 ⊢; omega)
    · refine Below.setCell (Below.setCell (Below.next (Below.next ?_ hb1 (by first | (simp; done) | omega | (simp; omega))) hb2 (by have hq1 := hb1.size; simp at hq1 ⊢; omega)) (by first | (simp; done) | omega | (simp; omega)) _) (by first | (simp; done) | omega | (simp; omega)) _
      repeat' (first | exact Below.refl _ _ | assumption | refine Below.drew ?_ | refine below_drewN ?_ _ | refine Below.alloc ?_ (by first | exact Nat.le_refl _ | omega | (simp; done) | (simp; omega)) _)

set_option maxRecDepth 100000 in
set_option maxHeartbeats 400000 in
/-- The call returns pairs in a row of its own. -/
def RetOwnPs (w : World) (l : List Pr) (e : Ending) (w' : World) : Prop :=
  ∃ v, e = .returned v ∧ Own 2 PairR (From w.heap.size) w' w.heap.size 60 v l ∧ Below w.heap.size w w'
set_option maxRecDepth 100000 in
set_option maxHeartbeats 1000000 in
theorem treeAll_own (w : World) (A : Option Addr) (l : List Pr) (c : Nat) (ha : Ps All w A l) (hn : l.length * 48 ≤ 140737488355328) :
    Calls Tryd.prog 137 #[.slice A l.length c] w (RetOwnPs w l) := by
  obtain ⟨i0, hi0, hz0, hz1, hz2⟩ := info_parts info_pair
  have Ha := Lib.hid ha
  clear ha
  go_enter Tryd.func137, Tryd.ntmps137
  go_wp2
  go_loopw [3, 8] (fun v i wr => ∃ k : Nat, k ≤ l.length ∧ i = .int .i64 k ∧ Own 2 PairR (From w.heap.size) wr w.heap.size 60 v (l.take k) ∧ Below w.heap.size w wr) (fun _ i _ => l.length - (intOf i).toNat)
  case atStart => exact ⟨0, by omega, rfl, Own.nil _ _ _, Below.refl _ _⟩
  case round =>
    obtain ⟨k, hk, rfl, hown, hbel⟩ := hrel
    have Hbel := Lib.hid hbel
    have Hown := Lib.hid hown
    clear hown hbel
    by_cases hlt : k < l.length
    · obtain ⟨ab, ao, K, c1, V, d1, rfl, _, hal, hc1, hc2, hs1, hs2, hb1, hb2⟩ := pairs_at (Ha.out.below pairR_stays Hbel.out) hlt
      have Hsn := Lib.hid (take_snoc l k hlt)
      generalize l[k] = x at *
      go_wp2_with (first
        | (go_at_call 139; refine (treeOwn_ok _ K V x c1 d1 (hs1.bz.bbelow ((Below.refl _ _).alloc (Nat.le_refl _) _)) (hs2.bz.bbelow ((Below.refl _ _).alloc (Nat.le_refl _) _)) hb1 hb2).mono ?_; rintro e w1 ⟨A1, c2, A2, d2, rfl, gs1, gs2, hbw1'⟩; have hbw1 : Below wr.heap.size wr w1 := ((Below.refl _ _).alloc (Nat.le_refl _) _).next hbw1' (by first | (simp; done) | omega | (simp; omega)); have hg1z : wr.heap.size + 1 ≤ w1.heap.size := (by have hz := hbw1'.size; simpa using hz))
        | (at_builtin; refine wpl_snoc pairR_stays (S := From w.heap.size) _ rfl _ _ _ rfl w.heap.size 60 i0 _ 2 48 Tryd.underlying48 hi0 hz0 hz1 hz2 rfl (by decide) _ (l.take k) rfl ?hown _ _ [.slice A1 x.1.length c2, .slice A2 x.2.length d2] rfl rfl (new_src _ _ [.slice A1 x.1.length c2, .slice A2 x.2.length d2] _ (by simp)) (by simp [Value.oneCell']) ?hm ?hby ?hba x ?hd ?_; (case hown => exact (Hown.out.below pairR_stays hbw1).same pairR_stays ((Same.refl _ _).alloc _)); (case hm => simp only [List.length_take, maxLen]; omega); (case hby => simp only [List.length_take]; omega); (case hba => have hz1 := Hbel.out.size; have hz2 := hbw1.size; simp; omega); (case hd => exact ⟨A1, c2, A2, d2, rfl, (gs1.bsame ((Same.refl _ _).alloc _)).bless fun b _ hs => ⟨by have hz1 := Hbel.out.size; have hz2 := hs; simp [From] at hz2 ⊢; omega, Hown.out.apart wr.heap.size (Nat.le_refl _) b (by have hz2 := hs; simp [From] at hz2 ⊢; omega)⟩, (gs2.bsame ((Same.refl _ _).alloc _)).bless fun b _ hs => ⟨by have hz1 := Hbel.out.size; have hz2 := hs; simp [From] at hz2 ⊢; omega, Hown.out.apart wr.heap.size (Nat.le_refl _) b (by have hz2 := hs; simp [From] at hz2 ⊢; omega)⟩, hb1, hb2⟩); intro v1 w2 hown2 hbw2))
      go_roundw
      case rel => exact ⟨k + 1, by omega, by go_num, by rw [Hsn.out]; exact hown2, ((Hbel.out.next hbw1 Hbel.out.size).alloc (by have hz1 := Hbel.out.size; have hz2 := hbw1.size; omega) _).trans hbw2⟩
      case measure => simp [intOf]; omega
    · go_wp2
      go_ret
      obtain rfl : k = l.length := by omega
      have h := Hown.out
      rw [List.take_length] at h
      exact ⟨_, rfl, h, Hbel.out⟩
theorem treeAll_cap (w : World) (A : Option Addr) (l : List Pr) (c : Nat) (ha : Ps All w A l) (hn : l.length * 48 ≤ 140737488355328) :
    Calls Tryd.prog 137 #[.slice A l.length c] w (RetSLc 2 PairR w l) :=
  (treeAll_own w A l c ha hn).mono fun e w' ⟨v, he, h, hb⟩ => by
    obtain ⟨A', c', rfl, hcap, hsl⟩ := h.readc pairR_stays
    exact ⟨A', c', he, hcap, hsl, hb⟩

theorem treeAll_ok (w : World) (A : Option Addr) (l : List Pr) (c : Nat) (ha : Ps All w A l) (hn : l.length * 48 ≤ 140737488355328) :
    Calls Tryd.prog 137 #[.slice A l.length c] w (RetPs w l) :=
  (treeAll_cap w A l c ha hn).mono fun _ _ h => h.bare


set_option maxRecDepth 100000 in
set_option maxHeartbeats 400000 in
theorem samePair_ok (w : World) (A B A' B' : Option Addr) (p : Pr) (c d c' d' : Nat) (ha : Bs All w A p.1) (hb : Bs All w B p.2) (ha' : Bs All w A' p.1) (hb' : Bs All w B' p.2) :
    Calls Tryd.prog 51 #[.agg #[.slice A p.1.length c, .slice B p.2.length d], .agg #[.slice A' p.1.length c', .slice B' p.2.length d']] w (RetV w (.bool true)) := by
  have Ha := Lib.hid ha
  have Hb := Lib.hid hb
  have Ha' := Lib.hid ha'
  have Hb' := Lib.hid hb'
  clear ha hb ha' hb'
  go_enter Tryd.func51, Tryd.ntmps51
  go_wp2_with (first
    | (go_at_call 21; (with_reducible refine (sameBytes_ok _ A A' p.1 p.1 c c' ?hx ?hy).mono ?_); (case hx => (refine Ha.out.bbelow ?_; repeat' (first | exact Below.refl _ _ | assumption | refine Below.drew ?_ | refine below_drewN ?_ _ | refine Below.alloc ?_ (by first | exact Nat.le_refl _ | omega | (simp; done) | (simp; omega)) _))); (case hy => (refine Ha'.out.bbelow ?_; repeat' (first | exact Below.refl _ _ | assumption | refine Below.drew ?_ | refine below_drewN ?_ _ | refine Below.alloc ?_ (by first | exact Nat.le_refl _ | omega | (simp; done) | (simp; omega)) _))); rintro e w2 ⟨rfl, rfl⟩)
    | (go_at_call 21; (with_reducible refine (sameBytes_ok _ B B' p.2 p.2 d d' ?hx ?hy).mono ?_); (case hx => (refine Hb.out.bbelow ?_; repeat' (first | exact Below.refl _ _ | assumption | refine Below.drew ?_ | refine below_drewN ?_ _ | refine Below.alloc ?_ (by first | exact Nat.le_refl _ | omega | (simp; done) | (simp; omega)) _))); (case hy => (refine Hb'.out.bbelow ?_; repeat' (first | exact Below.refl _ _ | assumption | refine Below.drew ?_ | refine below_drewN ?_ _ | refine Below.alloc ?_ (by first | exact Nat.le_refl _ | omega | (simp; done) | (simp; omega)) _))); rintro e w2 ⟨rfl, rfl⟩))
  go_ret
  refine ⟨by simp, ?_⟩
  repeat' (first | exact Below.refl _ _ | assumption | refine Below.drew ?_ | refine below_drewN ?_ _ | refine Below.alloc ?_ (by first | exact Nat.le_refl _ | omega | (simp; done) | (simp; omega)) _)

set_option maxRecDepth 100000 in
set_option maxHeartbeats 1000000 in
theorem samePairs_ok (w : World) (A B : Option Addr) (l : List Pr) (c d : Nat) (ha : Ps All w A l) (hb : Ps All w B l) (hn : l.length ≤ big) :
    Calls Tryd.prog 27 #[.slice A l.length c, .slice B l.length d] w (RetV w (.bool true)) := by
  unfold big at hn
  have Ha := Lib.hid ha
  have Hb := Lib.hid hb
  clear ha hb
  go_enter Tryd.func27, Tryd.ntmps27
  go_wp2
  go_loopw [5] (fun i wr => ∃ k : Nat, k ≤ l.length ∧ i = .int .i64 k ∧ Below w.heap.size w wr) (fun i _ => l.length - (intOf i).toNat)
  case atStart => exact ⟨0, by omega, rfl, Below.refl _ _⟩
  case round =>
    obtain ⟨k, hk, rfl, hbel⟩ := hrel
    have Hbel := Lib.hid hbel
    clear hbel
    by_cases hlt : k < l.length
    · obtain ⟨ab, ao, K, c1, V, d1, rfl, _, hal, hc1, hc2, hs1, hs2, _, _⟩ := pairs_at (Ha.out.below pairR_stays Hbel.out) hlt
      obtain ⟨bb, bo, K', c1', V', d1', rfl, _, hbl, hc3, hc4, hs3, hs4, _, _⟩ := pairs_at (Hb.out.below pairR_stays Hbel.out) hlt
      generalize l[k] = x at *
      have hi0 : (0 : Int) ≤ (k : Int) := by omega
      have hi1 : (k : Int) < (l.length : Int) := by omega
      go_wp2_with fail
      go_region_held3 (fun w' => w'.cell? ⟨ab, ao + k * 2, none⟩ = some (.slice K x.1.length c1) ∧ w'.cell? ⟨ab, ao + k * 2 + 1, none⟩ = some (.slice V x.2.length d1) ∧ w'.cell? ⟨bb, bo + k * 2, none⟩ = some (.slice K' x.1.length c1') ∧ w'.cell? ⟨bb, bo + k * 2 + 1, none⟩ = some (.slice V' x.2.length d1'))
        (first
          | go_keep
          | (go_split_ands; refine ⟨(hbw2.cell (by simp; omega)).trans (by assumption), (hbw2.cell (by simp; omega)).trans (by assumption), (hbw2.cell (by simp; omega)).trans (by assumption), (hbw2.cell (by simp; omega)).trans (by assumption)⟩))
        ((go_at_call 51; (with_reducible refine (samePair_ok _ K V K' V' x c1 d1 c1' d1' (hs1.bz.bsame (Same.refl _ _).drew) (hs2.bz.bsame (Same.refl _ _).drew) (hs3.bz.bsame (Same.refl _ _).drew) (hs4.bz.bsame (Same.refl _ _).drew)).mono ?_); rintro e w2 ⟨rfl, hbw2⟩))
      go_wp2
      go_roundw
      case rel => exact ⟨k + 1, by omega, by go_num, Hbel.out.drew.next hbw2 (by have hz2 := Hbel.out.size; simp; omega)⟩
      case measure => simp [intOf]; omega
    · go_wp2
      go_ret
      exact ⟨rfl, Hbel.out⟩
end Go.Proofs.YtjgdeeabejoegaaDoor
