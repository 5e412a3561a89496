/- ForestX: Walk: written of the references. Walks: forest.Apply, Applied; tenants held against each other. The law ForestApplies: its walk. The conditions of each are in its words. -/
import Derived.Test.YthohkgggodhbcaaGreatKForestW
import Derived.Test.YthohkgggodhbcaaGreatKForest
import Derived.Test.YthohkgggodhbcaaGreatKTreeW
namespace Go.Proofs.YthohkgggodhbcaaGreat
open Go.RowKit
set_option linter.unusedVariables false
set_option linter.unusedSimpArgs false

/-- The call returns tenants and a number. -/
def RetTE (w : World) (r : List Tn × Int) (e : Ending) (w' : World) : Prop :=
  ∃ A c, e = .returned (.tuple #[.slice A r.1.length c, .int .i64 r.2]) ∧ r.1.length ≤ c ∧ Ts (From w.heap.size) w' A r.1 ∧ Below w.heap.size w w'
theorem Own.low {α : Type} {size : Nat} {R : (Nat → Prop) → World → List Value → α → Prop} {S : Nat → Prop} {w : World} {base : Nat} {e : TypeId} {v : Value} {l : List α} (h : Own size R S w base e v l) : ∀ b, v.ownBlock = some b → base ≤ b := by
  obtain ⟨xs, h1, _⟩ := h
  exact fun b hb => (h1.lt b hb).1
theorem Own.readg {α : Type} {size b0 : Nat} {R : (Nat → Prop) → World → List Value → α → Prop} {w : World} {base : Nat} {e : TypeId} {v : Value} {l : List α} (hR : Stays R) (h : Own size R (From b0) w base e v l) (hb : b0 ≤ base) : ∃ A c, v = .slice A l.length c ∧ l.length ≤ c ∧ SL size R (From b0) w A l := by
  obtain ⟨xs, h1, h2⟩ := h
  have h1' := h1
  rcases h1.2 with ⟨rfl, h0⟩ | ⟨g, cap, cur, rfl, hge, hh, hcap, _⟩
  · have hl := List.eq_nil_of_length_eq_zero h0
    subst hl
    exact ⟨none, 0, rfl, Nat.le_refl _, SL.nil⟩
  · refine ⟨_, cap, rfl, hcap, fun _ => ⟨g, 0, rfl, Nat.le_trans hb hge, (Array.getElem?_eq_some_iff.1 hh).1, fun i hi => ⟨_, ?_, fun j hj => ?_, hR.less _ _ _ _ _ (fun b _ hs => hs.1) (h2 i hi)⟩⟩⟩
    · rw [List.length_take, List.length_drop, h1'.1]
      have : (i + 1) * size ≤ l.length * size := Nat.mul_le_mul_right _ hi
      rw [Nat.add_mul, Nat.one_mul] at this
      omega
    · have hlt : i * size + j < xs.length := by
        rw [h1'.1]
        have : (i + 1) * size ≤ l.length * size := Nat.mul_le_mul_right _ hi
        rw [Nat.add_mul, Nat.one_mul] at this
        omega
      have hc := h1'.cells (g := g) rfl (i * size + j) xs[i * size + j] (List.getElem?_eq_getElem hlt)
      rw [add_at] at hc
      rw [Nat.add_assoc, hc]
      rw [List.getElem?_take_of_lt hj, List.getElem?_drop, List.getElem?_eq_getElem hlt]
/-- A tenant of a new name and of pairs that were made before. -/
theorem ten_mixed {w1 wk W : World} {v : Value} {b0 n : Nat} {A B : Option Addr} {t : Tn} {c d : Nat} (h1 : Bs (From n) wk A t.1) (h2 : Ps (From b0) w1 B t.2) (g1 : t.1.length ≤ big) (g2 : t.2.length * 48 ≤ 140737488355328) (g3 : t.2.length ≤ d) (hs : Same (From n) wk W) (hbel : Below w1.heap.size w1 W) (hb : b0 ≤ n) (hap : ∀ b, From n b → v.ownBlock ≠ some b) (hlow : ∀ b, v.ownBlock = some b → w1.heap.size ≤ b) :
    TenR (fun b => From b0 b ∧ v.ownBlock ≠ some b) W [.slice A t.1.length c, .slice B t.2.length d] t :=
  ⟨A, c, B, d, rfl, (h1.bsame hs).bless fun b _ h => ⟨Nat.le_trans hb h, hap b h⟩, (h2.less pairR_stays fun b hlt h => ⟨h, fun e => by have := hlow b e; omega⟩).below pairR_stays hbel, g1, g2, g3⟩

set_option maxRecDepth 100000 in
set_option maxHeartbeats 4000000 in
theorem written_ok (w : World) (A : Option Addr) (l : List Tn) (c : Nat) (P Q V : Option Addr) (x : Wr) (a b d : Nat) (ha : Ts All w A l) (hp1 : Bs All w P x.name) (hp2 : Bs All w Q x.key) (hp3 : Bs All w V x.value) (g1 : x.name.length ≤ big) (hl8 : l.length ≤ 8) :
    Calls Tryz.prog 74 #[.slice A l.length c, .agg #[.slice P x.name.length a, .slice Q x.key.length b, .bool x.flag, .slice V x.value.length d]] w (RetTE w (writtenS l x)) := by
  obtain ⟨i0, hi0, hz0, hz1, hz2⟩ := info_parts info_ten
  have Ha := Lib.hid ha
  have Hp1 := Lib.hid hp1
  have Hp2 := Lib.hid hp2
  have Hp3 := Lib.hid hp3
  clear ha hp1 hp2 hp3
  obtain ⟨nx, hnx⟩ : ∃ nx, nx = nextS (pairsOfS l x.name) x := ⟨_, rfl⟩
  have hn60 : nx.1.length ≤ 60 := by rw [hnx]; exact nextS_len _ _
  have hws : writtenS l x = if nx.2 ≠ 0 then ([], nx.2) else if 8 < (putEnd (x.name, nx.1) (nx.1.length == 0) l).length then ([], 11) else (putEnd (x.name, nx.1) (nx.1.length == 0) l, 0) := by rw [hnx]; rfl
  have Hws := Lib.hid hws
  have Hnx := Lib.hid hnx
  clear hws hnx
  by_cases hne : nx.2 = 0
  rotate_left
  · have b1 : (nx.2 != 0) = true := by simpa using hne
    have Hv := Lib.hid (show writtenS l x = ([], nx.2) by rw [Hws.out, if_pos hne])
    clear hne
    rcases Bool.eq_false_or_eq_true x.flag with hf | hf
    · skip
      have Hf := Lib.hid hf
      rw [hf]
      clear hf
      have Hb0 := Lib.hid (show ∀ W, Below (w.heap.size + 1) (w.alloc (.cells #[.slice P x.name.length a, .slice Q x.key.length b, .bool true, .slice V x.value.length d] 40)) W → W.heap[w.heap.size]? = some (.cells #[.slice P x.name.length a, .slice Q x.key.length b, .bool true, .slice V x.value.length d] 40 (0, 0)) ∧ Below w.heap.size w W ∧ w.heap.size < W.heap.size from fun W hW => ⟨(hW.block _ (by omega)).trans (box_new w _ _), ((Below.refl w.heap.size w).alloc (Nat.le_refl _) _).trans (hW.mono (by omega)), by have := hW.size; simp at this; omega⟩)
      go_enter Tryz.func74, Tryz.ntmps74
      go_wp2_with (first
        | (go_at_call 34; refine (pairsOf_ok _ A l c P x.name a (Ha.out.below tenR_stays ?_) (Hp1.out.bbelow ?_) (by omega)).mono ?_; (repeat' (first | exact Below.refl _ _ | assumption | refine Below.drew ?_ | refine below_drewN ?_ _ | refine Below.alloc ?_ (by first | exact Nat.le_refl _ | omega | (simp; done) | (simp; omega)) _)); (repeat' (first | exact Below.refl _ _ | assumption | refine Below.drew ?_ | refine below_drewN ?_ _ | refine Below.alloc ?_ (by first | exact Nat.le_refl _ | omega | (simp; done) | (simp; omega)) _)); rintro e w2 ⟨A2, c2, rfl, hs2, hl2, _, hb2'⟩; have hb2 := (hb2'.mono (show w.heap.size + 1 ≤ _ by simp)); obtain ⟨q0, q1, q2, q3, _⟩ := box4 (Hb0.out w2 hb2).1; have hw2 := (Hb0.out w2 hb2).2.1; have hz2w := (Hb0.out w2 hb2).2.2)
        | (go_at_call 89; refine (deletedOf_ok _ A2 (pairsOfS l x.name) c2 Q x.key b hs2 (Hp2.out.bbelow hw2)).mono ?_; rintro e w1 ⟨A3, c9, rfl, hcap3, hs3, hb3⟩; have hN : delS (pairsOfS l x.name) x.key = nx := (by rw [Hnx.out]; unfold nextS; rw [if_pos Hf.out]); rw [hN] at hcap3 hs3 ⊢; clear hN))
      have hb1 := hb2.next hb3 (by omega)
      have Hbx := Lib.hid (show ∃ u, w1.heap[w.heap.size]? = some (.cells #[.slice P x.name.length a, .slice Q x.key.length b, u, .slice V x.value.length d] 40 (0, 0)) from ⟨_, (Hb0.out w1 hb1).1⟩)
      have Hb01 := Lib.hid (Hb0.out w1 hb1).2.1
      have hzb := (Hb0.out w1 hb1).2.2
      have Hs3 := Lib.hid (hs3.lo pairR_stays (show w.heap.size ≤ w2.heap.size by omega))
      clear hb1 hb2 hb2' hb3 hs3 hs2 Hb0 q0 q1 q2 q3 hw2 hz2w Hf
      go_ret2
      rw [Hv.out]
      exact ⟨none, 0, rfl, Nat.le_refl _, SL.nil, Hb01.out⟩
    · skip
      have Hf := Lib.hid hf
      rw [hf]
      clear hf
      have Hb0 := Lib.hid (show ∀ W, Below (w.heap.size + 1) (w.alloc (.cells #[.slice P x.name.length a, .slice Q x.key.length b, .bool false, .slice V x.value.length d] 40)) W → W.heap[w.heap.size]? = some (.cells #[.slice P x.name.length a, .slice Q x.key.length b, .bool false, .slice V x.value.length d] 40 (0, 0)) ∧ Below w.heap.size w W ∧ w.heap.size < W.heap.size from fun W hW => ⟨(hW.block _ (by omega)).trans (box_new w _ _), ((Below.refl w.heap.size w).alloc (Nat.le_refl _) _).trans (hW.mono (by omega)), by have := hW.size; simp at this; omega⟩)
      go_enter Tryz.func74, Tryz.ntmps74
      go_wp2_with (first
        | (go_at_call 34; refine (pairsOf_ok _ A l c P x.name a (Ha.out.below tenR_stays ?_) (Hp1.out.bbelow ?_) (by omega)).mono ?_; (repeat' (first | exact Below.refl _ _ | assumption | refine Below.drew ?_ | refine below_drewN ?_ _ | refine Below.alloc ?_ (by first | exact Nat.le_refl _ | omega | (simp; done) | (simp; omega)) _)); (repeat' (first | exact Below.refl _ _ | assumption | refine Below.drew ?_ | refine below_drewN ?_ _ | refine Below.alloc ?_ (by first | exact Nat.le_refl _ | omega | (simp; done) | (simp; omega)) _)); rintro e w2 ⟨A2, c2, rfl, hs2, hl2, _, hb2'⟩; have hb2 := (hb2'.mono (show w.heap.size + 1 ≤ _ by simp)); obtain ⟨q0, q1, q2, q3, _⟩ := box4 (Hb0.out w2 hb2).1; have hw2 := (Hb0.out w2 hb2).2.1; have hz2w := (Hb0.out w2 hb2).2.2)
        | (go_at_call 90; refine (putOf_ok _ A2 (pairsOfS l x.name) c2 Q V (x.key, x.value) b d hs2 (Hp2.out.bbelow hw2) (Hp3.out.bbelow hw2)).mono ?_; rintro e w1 ⟨A3, c9, rfl, hcap3, hs3, hb3⟩; have hN : putS (pairsOfS l x.name) (x.key, x.value) = nx := (by rw [Hnx.out]; unfold nextS; rw [if_neg (by rw [Hf.out]; decide)]); rw [hN] at hcap3 hs3 ⊢; clear hN))
      have hb1 := hb2.next hb3 (by omega)
      have Hbx := Lib.hid (show ∃ u, w1.heap[w.heap.size]? = some (.cells #[.slice P x.name.length a, .slice Q x.key.length b, u, .slice V x.value.length d] 40 (0, 0)) from ⟨_, (Hb0.out w1 hb1).1⟩)
      have Hb01 := Lib.hid (Hb0.out w1 hb1).2.1
      have hzb := (Hb0.out w1 hb1).2.2
      have Hs3 := Lib.hid (hs3.lo pairR_stays (show w.heap.size ≤ w2.heap.size by omega))
      clear hb1 hb2 hb2' hb3 hs3 hs2 Hb0 q0 q1 q2 q3 hw2 hz2w Hf
      go_ret2
      rw [Hv.out]
      exact ⟨none, 0, rfl, Nat.le_refl _, SL.nil, Hb01.out⟩
  have b1 : (nx.2 != 0) = false := by simp [hne]
  obtain ⟨p, hp⟩ : ∃ p : Tn, p = (x.name, nx.1) := ⟨_, rfl⟩
  obtain ⟨d0, hd0⟩ : ∃ d0 : Bool, d0 = (nx.1.length == 0) := ⟨_, rfl⟩
  have Hws2 := Lib.hid (show writtenS l x = if 8 < (putEnd p d0 l).length then ([], 11) else (putEnd p d0 l, 0) by rw [Hws.out, if_neg (by simpa using hne), hp, hd0])
  have b2 : ((nx.1.length : Int) == 0) = d0 := by rw [hd0, Bool.eq_iff_iff]; simp
  have Hp := Lib.hid hp
  clear hne hp hd0 Hws
  rcases Bool.eq_false_or_eq_true x.flag with hf | hf
  have Hf := Lib.hid hf
  rw [hf]
  clear hf
  have Hb0 := Lib.hid (show ∀ W, Below (w.heap.size + 1) (w.alloc (.cells #[.slice P x.name.length a, .slice Q x.key.length b, .bool true, .slice V x.value.length d] 40)) W → W.heap[w.heap.size]? = some (.cells #[.slice P x.name.length a, .slice Q x.key.length b, .bool true, .slice V x.value.length d] 40 (0, 0)) ∧ Below w.heap.size w W ∧ w.heap.size < W.heap.size from fun W hW => ⟨(hW.block _ (by omega)).trans (box_new w _ _), ((Below.refl w.heap.size w).alloc (Nat.le_refl _) _).trans (hW.mono (by omega)), by have := hW.size; simp at this; omega⟩)
  go_enter Tryz.func74, Tryz.ntmps74
  go_wp2_with (first
    | (go_at_call 34; refine (pairsOf_ok _ A l c P x.name a (Ha.out.below tenR_stays ?_) (Hp1.out.bbelow ?_) (by omega)).mono ?_; (repeat' (first | exact Below.refl _ _ | assumption | refine Below.drew ?_ | refine below_drewN ?_ _ | refine Below.alloc ?_ (by first | exact Nat.le_refl _ | omega | (simp; done) | (simp; omega)) _)); (repeat' (first | exact Below.refl _ _ | assumption | refine Below.drew ?_ | refine below_drewN ?_ _ | refine Below.alloc ?_ (by first | exact Nat.le_refl _ | omega | (simp; done) | (simp; omega)) _)); rintro e w2 ⟨A2, c2, rfl, hs2, hl2, _, hb2'⟩; have hb2 := (hb2'.mono (show w.heap.size + 1 ≤ _ by simp)); obtain ⟨q0, q1, q2, q3, _⟩ := box4 (Hb0.out w2 hb2).1; have hw2 := (Hb0.out w2 hb2).2.1; have hz2w := (Hb0.out w2 hb2).2.2)
    | (go_at_call 89; refine (deletedOf_ok _ A2 (pairsOfS l x.name) c2 Q x.key b hs2 (Hp2.out.bbelow hw2)).mono ?_; rintro e w1 ⟨A3, c9, rfl, hcap3, hs3, hb3⟩; have hN : delS (pairsOfS l x.name) x.key = nx := (by rw [Hnx.out]; unfold nextS; rw [if_pos Hf.out]); rw [hN] at hcap3 hs3 ⊢; clear hN))
  have hb1 := hb2.next hb3 (by omega)
  have Hbx := Lib.hid (show ∃ u, w1.heap[w.heap.size]? = some (.cells #[.slice P x.name.length a, .slice Q x.key.length b, u, .slice V x.value.length d] 40 (0, 0)) from ⟨_, (Hb0.out w1 hb1).1⟩)
  have Hb01 := Lib.hid (Hb0.out w1 hb1).2.1
  have hzb := (Hb0.out w1 hb1).2.2
  have Hs3 := Lib.hid (hs3.lo pairR_stays (show w.heap.size ≤ w2.heap.size by omega))
  clear hb1 hb2 hb2' hb3 hs3 hs2 Hb0 q0 q1 q2 q3 hw2 hz2w Hf
  rotate_left
  have Hf := Lib.hid hf
  rw [hf]
  clear hf
  have Hb0 := Lib.hid (show ∀ W, Below (w.heap.size + 1) (w.alloc (.cells #[.slice P x.name.length a, .slice Q x.key.length b, .bool false, .slice V x.value.length d] 40)) W → W.heap[w.heap.size]? = some (.cells #[.slice P x.name.length a, .slice Q x.key.length b, .bool false, .slice V x.value.length d] 40 (0, 0)) ∧ Below w.heap.size w W ∧ w.heap.size < W.heap.size from fun W hW => ⟨(hW.block _ (by omega)).trans (box_new w _ _), ((Below.refl w.heap.size w).alloc (Nat.le_refl _) _).trans (hW.mono (by omega)), by have := hW.size; simp at this; omega⟩)
  go_enter Tryz.func74, Tryz.ntmps74
  go_wp2_with (first
    | (go_at_call 34; refine (pairsOf_ok _ A l c P x.name a (Ha.out.below tenR_stays ?_) (Hp1.out.bbelow ?_) (by omega)).mono ?_; (repeat' (first | exact Below.refl _ _ | assumption | refine Below.drew ?_ | refine below_drewN ?_ _ | refine Below.alloc ?_ (by first | exact Nat.le_refl _ | omega | (simp; done) | (simp; omega)) _)); (repeat' (first | exact Below.refl _ _ | assumption | refine Below.drew ?_ | refine below_drewN ?_ _ | refine Below.alloc ?_ (by first | exact Nat.le_refl _ | omega | (simp; done) | (simp; omega)) _)); rintro e w2 ⟨A2, c2, rfl, hs2, hl2, _, hb2'⟩; have hb2 := (hb2'.mono (show w.heap.size + 1 ≤ _ by simp)); obtain ⟨q0, q1, q2, q3, _⟩ := box4 (Hb0.out w2 hb2).1; have hw2 := (Hb0.out w2 hb2).2.1; have hz2w := (Hb0.out w2 hb2).2.2)
    | (go_at_call 90; refine (putOf_ok _ A2 (pairsOfS l x.name) c2 Q V (x.key, x.value) b d hs2 (Hp2.out.bbelow hw2) (Hp3.out.bbelow hw2)).mono ?_; rintro e w1 ⟨A3, c9, rfl, hcap3, hs3, hb3⟩; have hN : putS (pairsOfS l x.name) (x.key, x.value) = nx := (by rw [Hnx.out]; unfold nextS; rw [if_neg (by rw [Hf.out]; decide)]); rw [hN] at hcap3 hs3 ⊢; clear hN))
  have hb1 := hb2.next hb3 (by omega)
  have Hbx := Lib.hid (show ∃ u, w1.heap[w.heap.size]? = some (.cells #[.slice P x.name.length a, .slice Q x.key.length b, u, .slice V x.value.length d] 40 (0, 0)) from ⟨_, (Hb0.out w1 hb1).1⟩)
  have Hb01 := Lib.hid (Hb0.out w1 hb1).2.1
  have hzb := (Hb0.out w1 hb1).2.2
  have Hs3 := Lib.hid (hs3.lo pairR_stays (show w.heap.size ≤ w2.heap.size by omega))
  clear hb1 hb2 hb2' hb3 hs3 hs2 Hb0 q0 q1 q2 q3 hw2 hz2w Hf
  rotate_left
  all_goals
    have Ha1 := Lib.hid (Ha.out.below tenR_stays Hb01.out)
    have Hp11 := Lib.hid (Hp1.out.bbelow Hb01.out)
    clear Hnx b1 b2
    go_loopw [9, 10, 11] (fun v dd i wr => ∃ j : Nat, j ≤ l.length ∧ i = .int .i64 j ∧ dd = .bool (putFrom p d0 (l.take j)).2 ∧ Own 2 TenR (From w.heap.size) wr w1.heap.size 48 v ((putFrom p d0 (l.take j)).1) ∧ Below w1.heap.size w1 wr) (fun _ _ i _ => l.length - (intOf i).toNat)
    case atStart => exact ⟨0, by omega, rfl, rfl, Own.nil _ _ _, Below.refl _ _⟩
    case round =>
      obtain ⟨j, hj, rfl, rfl, hown, hbel⟩ := hrel
      have hbz := hbel.size
      by_cases hlt : j < l.length
      · have Hst := Lib.hid (putFrom_snoc (p := p) (d := d0) hlt)
        have Hlen := Lib.hid (putFrom_len p d0 l j hj)
        obtain ⟨ab, ao, K0, c3, V0, d3, rfl, _, hal, hc1, hc2, hs1, hs2, hb1, hb2, _⟩ := tens_at Ha1.out hlt
        have Hcells := Lib.hid (show ∀ W, Below w1.heap.size w1 W → (W.cell? ⟨w.heap.size, 0, none⟩ = some (.slice P x.name.length a) ∧ W.cell? ⟨ab, ao + j * 2, none⟩ = some (.slice K0 l[j].1.length c3) ∧ W.cell? ⟨ab, ao + j * 2 + 1, none⟩ = some (.slice V0 l[j].2.length d3)) from fun W hW => by
          obtain ⟨u, hu⟩ := Hbx.out
          obtain ⟨g0, _⟩ := box4 ((hW.block _ hzb).trans hu)
          exact ⟨g0, (hW.cell hal).trans hc1, (hW.cell hal).trans hc2⟩)
        clear hc1 hc2
        obtain ⟨g0, hc1, hc2⟩ := Hcells.out wr hbel
        generalize l[j] = y at *
        have Hstep : ∀ s, putFrom p d0 (l.take j) = s → putFrom p d0 (l.take (j + 1)) = putStep p s y := fun s hs => by rw [Hst.out, hs]
        clear Hst
        generalize putFrom p d0 (l.take j) = s at *
        have Hst := Lib.hid (Hstep s rfl)
        clear Hstep
        obtain ⟨out, dn⟩ := s
        have Hown := Lib.hid hown
        have hlen := Hlen.out
        have hi0' : (0 : Int) ≤ (j : Int) := by omega
        have hi1 : (j : Int) < (l.length : Int) := by omega
        have hpx : p.1 = x.name := by rw [Hp.out]
        have Hpx := Lib.hid hpx
        dsimp only at hlen
        clear hown hpx
        cases dn with
        | true =>
          rcases Bool.eq_false_or_eq_true (y.1 == x.name) with he | he
          · have Hq := Lib.hid (show putStep p (out, true) y = (out, true) by simp [putStep, Hpx.out, he])
            go_wp2_with fail
            go_quiet (fail)
            go_wp2_with fail
            go_quiet ((go_at_call 35; exact quiet_add_left ((refSameBytes_ok _ K0 P y.1 x.name c3 a ((hs1.bz.bbelow hbel).bsame (by repeat' (first | exact Same.refl _ _ | assumption | refine Same.drew ?_ | refine Same.drewN ?_ _ | refine Same.alloc ?_ _ | refine Same.setCell ?_ (fun hq => by simp only [From] at hq; first | omega | (simp at hq; done) | (simp at hq; omega)) _))) ((Hp11.out.bbelow hbel).bsame (by repeat' (first | exact Same.refl _ _ | assumption | refine Same.drew ?_ | refine Same.drewN ?_ _ | refine Same.alloc ?_ _ | refine Same.setCell ?_ (fun hq => by simp only [From] at hq; first | omega | (simp at hq; done) | (simp at hq; omega)) _)))))))
            go_wp2
            go_roundw
            case rel => exact ⟨j + 1, by omega, by go_num, by rw [Hst.out, Hq.out], by rw [Hst.out, Hq.out]; exact Hown.out.below tenR_stays (below_drewN (Below.refl _ _) _), below_drewN hbel _⟩
            case measure => simp [intOf]; omega
          · have Hq := Lib.hid (show putStep p (out, true) y = (out ++ [y], true) by simp [putStep, Hpx.out, he])
            go_wp2_with fail
            go_quiet (fail)
            go_wp2_with fail
            go_quiet ((go_at_call 35; exact quiet_add_left ((refSameBytes_ok _ K0 P y.1 x.name c3 a ((hs1.bz.bbelow hbel).bsame (by repeat' (first | exact Same.refl _ _ | assumption | refine Same.drew ?_ | refine Same.drewN ?_ _ | refine Same.alloc ?_ _ | refine Same.setCell ?_ (fun hq => by simp only [From] at hq; first | omega | (simp at hq; done) | (simp at hq; omega)) _))) ((Hp11.out.bbelow hbel).bsame (by repeat' (first | exact Same.refl _ _ | assumption | refine Same.drew ?_ | refine Same.drewN ?_ _ | refine Same.alloc ?_ _ | refine Same.setCell ?_ (fun hq => by simp only [From] at hq; first | omega | (simp at hq; done) | (simp at hq; omega)) _)))))))
            generalize hwz : World.drewN wr _ = wz
            have hbzz : Below w1.heap.size w1 wz := hwz ▸ below_drewN hbel _
            have Hownz := Lib.hid (show Own 2 TenR (From w.heap.size) wz w1.heap.size 48 _ (out) from hwz ▸ Hown.out.below tenR_stays (below_drewN (Below.refl _ _) _))
            clear hwz
            generalize hwq : World.drewN wz _ = wq
            have hbq : Below w1.heap.size w1 wq := hwq ▸ below_drewN hbzz _
            have Hownq := Lib.hid (show Own 2 TenR (From w.heap.size) wq w1.heap.size 48 _ (out) from hwq ▸ Hownz.out.below tenR_stays (below_drewN (Below.refl _ _) _))
            clear hwq
            have hbqz := hbq.size
            obtain ⟨g2, hc3, hc4⟩ := Hcells.out wq hbq
            go_wp2_with fail
            go_region_held3 (fun w' => w'.cell? ⟨ab, ao + j * 2, none⟩ = some (.slice K0 y.1.length c3) ∧ w'.cell? ⟨ab, ao + j * 2 + 1, none⟩ = some (.slice V0 y.2.length d3))
              (first | go_keep | exact (Hcells.out _ hk5).2 | exact (Hcells.out _ hk4).2 | exact (Hcells.out _ hk3).2)
              (first
                | (go_at_call 17; (with_reducible refine (joinedNil_ok _ K0 y.1 c3 ?ha hb1).mono ?_); (case ha => exact (hs1.bz.bbelow hbq).bsame (by repeat' (first | exact Same.refl _ _ | assumption | refine Same.drew ?_ | refine Same.drewN ?_ _ | refine Same.alloc ?_ _ | refine Same.setCell ?_ (fun hq => by simp only [From] at hq; first | omega | (simp at hq; done) | (simp at hq; omega)) _))); rintro e w3 ⟨A5, c5, rfl, gs1, hbw3⟩; have hk3 : Below w1.heap.size w1 w3 := hbq.drew.next hbw3 (by first | exact Nat.le_refl _ | omega | (simp; done) | (simp; omega)); have hzw3 : wq.heap.size ≤ w3.heap.size := (by simpa using hbw3.size))
                | (go_at_call 88; (with_reducible refine (pairsCopy_cap _ V0 y.2 d3 ?ha hb2).mono ?_); (case ha => exact (hs2.z pairR_stays).below pairR_stays hk3); rintro e w4 ⟨A6, d6, rfl, gc2, gs2, hbw4⟩; have hzw4 : w3.heap.size ≤ w4.heap.size := hbw4.size; have hk4 : Below w1.heap.size w1 w4 := hk3.next hbw4 (by first | exact Nat.le_refl _ | omega | (simp; done) | (simp; omega)); have hq4 : Below wq.heap.size wq w4 := ((Below.refl wq.heap.size wq).drew.next hbw3 (by first | exact Nat.le_refl _ | omega | (simp; done) | (simp; omega))).next hbw4 (by first | exact Nat.le_refl _ | omega | (simp; done) | (simp; omega)))
                | (refine step_snoc tenR_stays (S := From w.heap.size) _ rfl (.tmp 77) (.tmp 91) _ rfl w1.heap.size 48 i0 _ 2 48 Tryz.underlying34 hi0 hz0 hz1 hz2 rfl (by decide) _ (out) rfl ?hown _ _ [.slice A5 y.1.length c5, .slice A6 y.2.length d6] rfl rfl (new_src _ _ [.slice A5 y.1.length c5, .slice A6 y.2.length d6] _ (by simp)) (by simp [Value.oneCell']) ?hm ?hby ?hba y ?hd ?_; (case hown => (refine Own.below tenR_stays Hownq.out ?_; repeat' (first | exact Below.refl _ _ | assumption | refine Below.drew ?_ | refine below_drewN ?_ _ | refine Below.setCell ?_ (by first | (simp; done) | omega | (simp; omega)) _ | refine Below.alloc ?_ (by first | exact Nat.le_refl _ | omega | (simp; done) | (simp; omega)) _))); (case hm => ((try simp only [List.length_append, List.length_singleton]); simp only [maxLen]; omega)); (case hby => ((try simp only [List.length_append, List.length_singleton]); omega)); (case hba => (simp; omega)); (case hd => (refine ten_fresh (n := wq.heap.size) (gs1.bbelow hbw4) (gs2.lo pairR_stays hzw3) hb1 hb2 gc2 ?_ (by first | exact Nat.le_refl _ | omega | (simp; done) | (simp; omega)) (Hownq.out.apart _ (Nat.le_refl _)); repeat' (first | exact Same.refl _ _ | assumption | refine Same.drew ?_ | refine Same.drewN ?_ _ | refine Same.alloc ?_ _ | refine Same.setCell ?_ (fun hq => by simp only [From] at hq; first | omega | (simp at hq; done) | (simp at hq; omega)) _))); intro v1 w5 hown2 hbw2; have hk5 : Below w1.heap.size w1 w5 := (hk4.alloc (by first | exact Nat.le_refl _ | omega | (simp; done) | (simp; omega)) _).trans hbw2))
            go_wp2
            go_roundw
            case rel => exact ⟨j + 1, by omega, by go_num, by rw [Hst.out, Hq.out], by rw [Hst.out, Hq.out]; simpa using hown2, hk5⟩
            case measure => simp [intOf]; omega
        | false =>
          rcases Bool.eq_false_or_eq_true (lt y.1 x.name) with ho | ho
          · have he : (y.1 == x.name) = false := by rw [beq_eq_false_iff_ne]; intro e; rw [e, lt_irrefl] at ho; cases ho
            have Hq := Lib.hid (show putStep p (out, false) y = (out ++ [y], false) by simp [putStep, Hpx.out, ho, he])
            go_wp2_with fail
            go_quiet ((go_at_call 52; exact quiet_left ((before_ok _ K0 P y.1 x.name c3 a ((hs1.bz.bbelow hbel).bsame (by repeat' (first | exact Same.refl _ _ | assumption | refine Same.drew ?_ | refine Same.drewN ?_ _ | refine Same.alloc ?_ _ | refine Same.setCell ?_ (fun hq => by simp only [From] at hq; first | omega | (simp at hq; done) | (simp at hq; omega)) _))) ((Hp11.out.bbelow hbel).bsame (by repeat' (first | exact Same.refl _ _ | assumption | refine Same.drew ?_ | refine Same.drewN ?_ _ | refine Same.alloc ?_ _ | refine Same.setCell ?_ (fun hq => by simp only [From] at hq; first | omega | (simp at hq; done) | (simp at hq; omega)) _)))))))
            go_wp2_with fail
            go_quiet ((go_at_call 35; exact quiet_add_left ((refSameBytes_ok _ K0 P y.1 x.name c3 a ((hs1.bz.bbelow hbel).bsame (by repeat' (first | exact Same.refl _ _ | assumption | refine Same.drew ?_ | refine Same.drewN ?_ _ | refine Same.alloc ?_ _ | refine Same.setCell ?_ (fun hq => by simp only [From] at hq; first | omega | (simp at hq; done) | (simp at hq; omega)) _))) ((Hp11.out.bbelow hbel).bsame (by repeat' (first | exact Same.refl _ _ | assumption | refine Same.drew ?_ | refine Same.drewN ?_ _ | refine Same.alloc ?_ _ | refine Same.setCell ?_ (fun hq => by simp only [From] at hq; first | omega | (simp at hq; done) | (simp at hq; omega)) _)))))))
            generalize hwz : World.drewN wr _ = wz
            have hbzz : Below w1.heap.size w1 wz := hwz ▸ below_drewN hbel _
            have Hownz := Lib.hid (show Own 2 TenR (From w.heap.size) wz w1.heap.size 48 _ (out) from hwz ▸ Hown.out.below tenR_stays (below_drewN (Below.refl _ _) _))
            clear hwz
            generalize hwq : World.drewN wz _ = wq
            have hbq : Below w1.heap.size w1 wq := hwq ▸ below_drewN hbzz _
            have Hownq := Lib.hid (show Own 2 TenR (From w.heap.size) wq w1.heap.size 48 _ (out) from hwq ▸ Hownz.out.below tenR_stays (below_drewN (Below.refl _ _) _))
            clear hwq
            have hbqz := hbq.size
            obtain ⟨g2, hc3, hc4⟩ := Hcells.out wq hbq
            go_wp2_with fail
            go_region_held3 (fun w' => w'.cell? ⟨ab, ao + j * 2, none⟩ = some (.slice K0 y.1.length c3) ∧ w'.cell? ⟨ab, ao + j * 2 + 1, none⟩ = some (.slice V0 y.2.length d3))
              (first | go_keep | exact (Hcells.out _ hk5).2 | exact (Hcells.out _ hk4).2 | exact (Hcells.out _ hk3).2)
              (first
                | (go_at_call 17; (with_reducible refine (joinedNil_ok _ K0 y.1 c3 ?ha hb1).mono ?_); (case ha => exact (hs1.bz.bbelow hbq).bsame (by repeat' (first | exact Same.refl _ _ | assumption | refine Same.drew ?_ | refine Same.drewN ?_ _ | refine Same.alloc ?_ _ | refine Same.setCell ?_ (fun hq => by simp only [From] at hq; first | omega | (simp at hq; done) | (simp at hq; omega)) _))); rintro e w3 ⟨A5, c5, rfl, gs1, hbw3⟩; have hk3 : Below w1.heap.size w1 w3 := hbq.drew.next hbw3 (by first | exact Nat.le_refl _ | omega | (simp; done) | (simp; omega)); have hzw3 : wq.heap.size ≤ w3.heap.size := (by simpa using hbw3.size))
                | (go_at_call 88; (with_reducible refine (pairsCopy_cap _ V0 y.2 d3 ?ha hb2).mono ?_); (case ha => exact (hs2.z pairR_stays).below pairR_stays hk3); rintro e w4 ⟨A6, d6, rfl, gc2, gs2, hbw4⟩; have hzw4 : w3.heap.size ≤ w4.heap.size := hbw4.size; have hk4 : Below w1.heap.size w1 w4 := hk3.next hbw4 (by first | exact Nat.le_refl _ | omega | (simp; done) | (simp; omega)); have hq4 : Below wq.heap.size wq w4 := ((Below.refl wq.heap.size wq).drew.next hbw3 (by first | exact Nat.le_refl _ | omega | (simp; done) | (simp; omega))).next hbw4 (by first | exact Nat.le_refl _ | omega | (simp; done) | (simp; omega)))
                | (refine step_snoc tenR_stays (S := From w.heap.size) _ rfl (.tmp 77) (.tmp 91) _ rfl w1.heap.size 48 i0 _ 2 48 Tryz.underlying34 hi0 hz0 hz1 hz2 rfl (by decide) _ (out) rfl ?hown _ _ [.slice A5 y.1.length c5, .slice A6 y.2.length d6] rfl rfl (new_src _ _ [.slice A5 y.1.length c5, .slice A6 y.2.length d6] _ (by simp)) (by simp [Value.oneCell']) ?hm ?hby ?hba y ?hd ?_; (case hown => (refine Own.below tenR_stays Hownq.out ?_; repeat' (first | exact Below.refl _ _ | assumption | refine Below.drew ?_ | refine below_drewN ?_ _ | refine Below.setCell ?_ (by first | (simp; done) | omega | (simp; omega)) _ | refine Below.alloc ?_ (by first | exact Nat.le_refl _ | omega | (simp; done) | (simp; omega)) _))); (case hm => ((try simp only [List.length_append, List.length_singleton]); simp only [maxLen]; omega)); (case hby => ((try simp only [List.length_append, List.length_singleton]); omega)); (case hba => (simp; omega)); (case hd => (refine ten_fresh (n := wq.heap.size) (gs1.bbelow hbw4) (gs2.lo pairR_stays hzw3) hb1 hb2 gc2 ?_ (by first | exact Nat.le_refl _ | omega | (simp; done) | (simp; omega)) (Hownq.out.apart _ (Nat.le_refl _)); repeat' (first | exact Same.refl _ _ | assumption | refine Same.drew ?_ | refine Same.drewN ?_ _ | refine Same.alloc ?_ _ | refine Same.setCell ?_ (fun hq => by simp only [From] at hq; first | omega | (simp at hq; done) | (simp at hq; omega)) _))); intro v1 w5 hown2 hbw2; have hk5 : Below w1.heap.size w1 w5 := (hk4.alloc (by first | exact Nat.le_refl _ | omega | (simp; done) | (simp; omega)) _).trans hbw2))
            go_wp2
            go_roundw
            case rel => exact ⟨j + 1, by omega, by go_num, by rw [Hst.out, Hq.out], by rw [Hst.out, Hq.out]; simpa using hown2, hk5⟩
            case measure => simp [intOf]; omega
          · rcases Bool.eq_false_or_eq_true (y.1 == x.name) with he | he
            · have Hq := Lib.hid (show putStep p (out, false) y = (out ++ [p], true) by simp [putStep, Hpx.out, ho, he])
              go_wp2_with fail
              go_quiet ((go_at_call 52; exact quiet_left ((before_ok _ K0 P y.1 x.name c3 a ((hs1.bz.bbelow hbel).bsame (by repeat' (first | exact Same.refl _ _ | assumption | refine Same.drew ?_ | refine Same.drewN ?_ _ | refine Same.alloc ?_ _ | refine Same.setCell ?_ (fun hq => by simp only [From] at hq; first | omega | (simp at hq; done) | (simp at hq; omega)) _))) ((Hp11.out.bbelow hbel).bsame (by repeat' (first | exact Same.refl _ _ | assumption | refine Same.drew ?_ | refine Same.drewN ?_ _ | refine Same.alloc ?_ _ | refine Same.setCell ?_ (fun hq => by simp only [From] at hq; first | omega | (simp at hq; done) | (simp at hq; omega)) _)))))))
              generalize hwp : World.drewN wr _ = wp
              have hbp : Below w1.heap.size w1 wp := hwp ▸ below_drewN hbel _
              have Hownp := Lib.hid (show Own 2 TenR (From w.heap.size) wp w1.heap.size 48 _ (out) from hwp ▸ Hown.out.below tenR_stays (below_drewN (Below.refl _ _) _))
              clear hwp
              have hbpz := hbp.size
              obtain ⟨g5, hc5, hc6⟩ := Hcells.out wp hbp
              go_wp2_with (first
                | (go_at_call 17; (with_reducible refine (joinedNil_ok _ P x.name a ?ha g1).mono ?_); (case ha => exact Hp11.out.bbelow hbp); rintro e w6 ⟨A7, c7, rfl, gs7, hb6⟩; have hb6z := hb6.size; have hk6 := hbp.next hb6 (by first | exact Nat.le_refl _ | omega | (simp; done) | (simp; omega)))
                | (at_builtin; refine wpl_snoc tenR_stays (S := From w.heap.size) _ rfl (.tmp 60) (.tmp 66) _ rfl w1.heap.size 48 i0 _ 2 48 Tryz.underlying34 hi0 hz0 hz1 hz2 rfl (by decide) _ (out) rfl ?hown _ _ [.slice A7 x.name.length c7, .slice A3 nx.1.length c9] rfl rfl (new_src _ _ [.slice A7 x.name.length c7, .slice A3 nx.1.length c9] _ (by simp)) (by simp [Value.oneCell']) ?hm ?hby ?hba p ?hd ?_; (case hown => (refine Own.below tenR_stays Hownp.out ?_; repeat' (first | exact Below.refl _ _ | assumption | refine Below.drew ?_ | refine below_drewN ?_ _ | refine Below.setCell ?_ (by first | (simp; done) | omega | (simp; omega)) _ | refine Below.alloc ?_ (by first | exact Nat.le_refl _ | omega | (simp; done) | (simp; omega)) _))); (case hm => ((try simp only [List.length_append, List.length_singleton]); simp only [maxLen]; omega)); (case hby => ((try simp only [List.length_append, List.length_singleton]); omega)); (case hba => (simp; omega)); (case hd => (rw [Hp.out]; refine ten_mixed (n := wp.heap.size) (t := (x.name, nx.1)) gs7 Hs3.out g1 (by show nx.1.length * 48 ≤ _; omega) hcap3 ?_ ?_ (by first | exact Nat.le_refl _ | omega | (simp; done) | (simp; omega)) (Hownp.out.apart _ (Nat.le_refl _)) Hownp.out.low; (repeat' (first | exact Same.refl _ _ | assumption | refine Same.drew ?_ | refine Same.drewN ?_ _ | refine Same.alloc ?_ _ | refine Same.setCell ?_ (fun hq => by simp only [From] at hq; first | omega | (simp at hq; done) | (simp at hq; omega)) _)); (exact hk6.alloc (by first | exact Nat.le_refl _ | omega | (simp; done) | (simp; omega)) _))); intro v7 w7 hown7 hbw7; have hb17 : Below w1.heap.size w1 w7 := (hk6.alloc (by first | exact Nat.le_refl _ | omega | (simp; done) | (simp; omega)) _).trans hbw7; have hz17 := hb17.size; obtain ⟨g7, hc7, hc8⟩ := Hcells.out w7 hb17))
              go_quiet ((go_at_call 35; exact quiet_left ((refSameBytes_ok _ K0 P y.1 x.name c3 a ((hs1.bz.bbelow hb17).bsame (by repeat' (first | exact Same.refl _ _ | assumption | refine Same.drew ?_ | refine Same.drewN ?_ _ | refine Same.alloc ?_ _ | refine Same.setCell ?_ (fun hq => by simp only [From] at hq; first | omega | (simp at hq; done) | (simp at hq; omega)) _))) ((Hp11.out.bbelow hb17).bsame (by repeat' (first | exact Same.refl _ _ | assumption | refine Same.drew ?_ | refine Same.drewN ?_ _ | refine Same.alloc ?_ _ | refine Same.setCell ?_ (fun hq => by simp only [From] at hq; first | omega | (simp at hq; done) | (simp at hq; omega)) _)))))))
              go_wp2
              go_roundw
              case rel => exact ⟨j + 1, by omega, by go_num, by rw [Hst.out, Hq.out], by rw [Hst.out, Hq.out]; exact hown7.below tenR_stays (below_drewN (Below.refl _ _) _), below_drewN hb17 _⟩
              case measure => simp [intOf]; omega
            · have Hq := Lib.hid (show putStep p (out, false) y = (out ++ [p] ++ [y], true) by simp [putStep, Hpx.out, ho, he])
              go_wp2_with fail
              go_quiet ((go_at_call 52; exact quiet_left ((before_ok _ K0 P y.1 x.name c3 a ((hs1.bz.bbelow hbel).bsame (by repeat' (first | exact Same.refl _ _ | assumption | refine Same.drew ?_ | refine Same.drewN ?_ _ | refine Same.alloc ?_ _ | refine Same.setCell ?_ (fun hq => by simp only [From] at hq; first | omega | (simp at hq; done) | (simp at hq; omega)) _))) ((Hp11.out.bbelow hbel).bsame (by repeat' (first | exact Same.refl _ _ | assumption | refine Same.drew ?_ | refine Same.drewN ?_ _ | refine Same.alloc ?_ _ | refine Same.setCell ?_ (fun hq => by simp only [From] at hq; first | omega | (simp at hq; done) | (simp at hq; omega)) _)))))))
              generalize hwp : World.drewN wr _ = wp
              have hbp : Below w1.heap.size w1 wp := hwp ▸ below_drewN hbel _
              have Hownp := Lib.hid (show Own 2 TenR (From w.heap.size) wp w1.heap.size 48 _ (out) from hwp ▸ Hown.out.below tenR_stays (below_drewN (Below.refl _ _) _))
              clear hwp
              have hbpz := hbp.size
              obtain ⟨g5, hc5, hc6⟩ := Hcells.out wp hbp
              go_wp2_with (first
                | (go_at_call 17; (with_reducible refine (joinedNil_ok _ P x.name a ?ha g1).mono ?_); (case ha => exact Hp11.out.bbelow hbp); rintro e w6 ⟨A7, c7, rfl, gs7, hb6⟩; have hb6z := hb6.size; have hk6 := hbp.next hb6 (by first | exact Nat.le_refl _ | omega | (simp; done) | (simp; omega)))
                | (at_builtin; refine wpl_snoc tenR_stays (S := From w.heap.size) _ rfl (.tmp 60) (.tmp 66) _ rfl w1.heap.size 48 i0 _ 2 48 Tryz.underlying34 hi0 hz0 hz1 hz2 rfl (by decide) _ (out) rfl ?hown _ _ [.slice A7 x.name.length c7, .slice A3 nx.1.length c9] rfl rfl (new_src _ _ [.slice A7 x.name.length c7, .slice A3 nx.1.length c9] _ (by simp)) (by simp [Value.oneCell']) ?hm ?hby ?hba p ?hd ?_; (case hown => (refine Own.below tenR_stays Hownp.out ?_; repeat' (first | exact Below.refl _ _ | assumption | refine Below.drew ?_ | refine below_drewN ?_ _ | refine Below.setCell ?_ (by first | (simp; done) | omega | (simp; omega)) _ | refine Below.alloc ?_ (by first | exact Nat.le_refl _ | omega | (simp; done) | (simp; omega)) _))); (case hm => ((try simp only [List.length_append, List.length_singleton]); simp only [maxLen]; omega)); (case hby => ((try simp only [List.length_append, List.length_singleton]); omega)); (case hba => (simp; omega)); (case hd => (rw [Hp.out]; refine ten_mixed (n := wp.heap.size) (t := (x.name, nx.1)) gs7 Hs3.out g1 (by show nx.1.length * 48 ≤ _; omega) hcap3 ?_ ?_ (by first | exact Nat.le_refl _ | omega | (simp; done) | (simp; omega)) (Hownp.out.apart _ (Nat.le_refl _)) Hownp.out.low; (repeat' (first | exact Same.refl _ _ | assumption | refine Same.drew ?_ | refine Same.drewN ?_ _ | refine Same.alloc ?_ _ | refine Same.setCell ?_ (fun hq => by simp only [From] at hq; first | omega | (simp at hq; done) | (simp at hq; omega)) _)); (exact hk6.alloc (by first | exact Nat.le_refl _ | omega | (simp; done) | (simp; omega)) _))); intro v7 w7 hown7 hbw7; have hb17 : Below w1.heap.size w1 w7 := (hk6.alloc (by first | exact Nat.le_refl _ | omega | (simp; done) | (simp; omega)) _).trans hbw7; have hz17 := hb17.size; obtain ⟨g7, hc7, hc8⟩ := Hcells.out w7 hb17))
              go_quiet ((go_at_call 35; exact quiet_left ((refSameBytes_ok _ K0 P y.1 x.name c3 a ((hs1.bz.bbelow hb17).bsame (by repeat' (first | exact Same.refl _ _ | assumption | refine Same.drew ?_ | refine Same.drewN ?_ _ | refine Same.alloc ?_ _ | refine Same.setCell ?_ (fun hq => by simp only [From] at hq; first | omega | (simp at hq; done) | (simp at hq; omega)) _))) ((Hp11.out.bbelow hb17).bsame (by repeat' (first | exact Same.refl _ _ | assumption | refine Same.drew ?_ | refine Same.drewN ?_ _ | refine Same.alloc ?_ _ | refine Same.setCell ?_ (fun hq => by simp only [From] at hq; first | omega | (simp at hq; done) | (simp at hq; omega)) _)))))))
              generalize hwq : World.drewN w7 _ = wq
              have hbq : Below w1.heap.size w1 wq := hwq ▸ below_drewN hb17 _
              have Hownq := Lib.hid (show Own 2 TenR (From w.heap.size) wq w1.heap.size 48 _ (out ++ [p]) from hwq ▸ hown7.below tenR_stays (below_drewN (Below.refl _ _) _))
              clear hwq
              have hbqz := hbq.size
              obtain ⟨g2, hc3, hc4⟩ := Hcells.out wq hbq
              go_wp2_with fail
              go_region_held3 (fun w' => w'.cell? ⟨ab, ao + j * 2, none⟩ = some (.slice K0 y.1.length c3) ∧ w'.cell? ⟨ab, ao + j * 2 + 1, none⟩ = some (.slice V0 y.2.length d3))
                (first | go_keep | exact (Hcells.out _ hk5).2 | exact (Hcells.out _ hk4).2 | exact (Hcells.out _ hk3).2)
                (first
                  | (go_at_call 17; (with_reducible refine (joinedNil_ok _ K0 y.1 c3 ?ha hb1).mono ?_); (case ha => exact (hs1.bz.bbelow hbq).bsame (by repeat' (first | exact Same.refl _ _ | assumption | refine Same.drew ?_ | refine Same.drewN ?_ _ | refine Same.alloc ?_ _ | refine Same.setCell ?_ (fun hq => by simp only [From] at hq; first | omega | (simp at hq; done) | (simp at hq; omega)) _))); rintro e w3 ⟨A5, c5, rfl, gs1, hbw3⟩; have hk3 : Below w1.heap.size w1 w3 := hbq.drew.next hbw3 (by first | exact Nat.le_refl _ | omega | (simp; done) | (simp; omega)); have hzw3 : wq.heap.size ≤ w3.heap.size := (by simpa using hbw3.size))
                  | (go_at_call 88; (with_reducible refine (pairsCopy_cap _ V0 y.2 d3 ?ha hb2).mono ?_); (case ha => exact (hs2.z pairR_stays).below pairR_stays hk3); rintro e w4 ⟨A6, d6, rfl, gc2, gs2, hbw4⟩; have hzw4 : w3.heap.size ≤ w4.heap.size := hbw4.size; have hk4 : Below w1.heap.size w1 w4 := hk3.next hbw4 (by first | exact Nat.le_refl _ | omega | (simp; done) | (simp; omega)); have hq4 : Below wq.heap.size wq w4 := ((Below.refl wq.heap.size wq).drew.next hbw3 (by first | exact Nat.le_refl _ | omega | (simp; done) | (simp; omega))).next hbw4 (by first | exact Nat.le_refl _ | omega | (simp; done) | (simp; omega)))
                  | (refine step_snoc tenR_stays (S := From w.heap.size) _ rfl (.tmp 77) (.tmp 91) _ rfl w1.heap.size 48 i0 _ 2 48 Tryz.underlying34 hi0 hz0 hz1 hz2 rfl (by decide) _ (out ++ [p]) rfl ?hown _ _ [.slice A5 y.1.length c5, .slice A6 y.2.length d6] rfl rfl (new_src _ _ [.slice A5 y.1.length c5, .slice A6 y.2.length d6] _ (by simp)) (by simp [Value.oneCell']) ?hm ?hby ?hba y ?hd ?_; (case hown => (refine Own.below tenR_stays Hownq.out ?_; repeat' (first | exact Below.refl _ _ | assumption | refine Below.drew ?_ | refine below_drewN ?_ _ | refine Below.setCell ?_ (by first | (simp; done) | omega | (simp; omega)) _ | refine Below.alloc ?_ (by first | exact Nat.le_refl _ | omega | (simp; done) | (simp; omega)) _))); (case hm => ((try simp only [List.length_append, List.length_singleton]); simp only [maxLen]; omega)); (case hby => ((try simp only [List.length_append, List.length_singleton]); omega)); (case hba => (simp; omega)); (case hd => (refine ten_fresh (n := wq.heap.size) (gs1.bbelow hbw4) (gs2.lo pairR_stays hzw3) hb1 hb2 gc2 ?_ (by first | exact Nat.le_refl _ | omega | (simp; done) | (simp; omega)) (Hownq.out.apart _ (Nat.le_refl _)); repeat' (first | exact Same.refl _ _ | assumption | refine Same.drew ?_ | refine Same.drewN ?_ _ | refine Same.alloc ?_ _ | refine Same.setCell ?_ (fun hq => by simp only [From] at hq; first | omega | (simp at hq; done) | (simp at hq; omega)) _))); intro v1 w5 hown2 hbw2; have hk5 : Below w1.heap.size w1 w5 := (hk4.alloc (by first | exact Nat.le_refl _ | omega | (simp; done) | (simp; omega)) _).trans hbw2))
              go_wp2
              go_roundw
              case rel => exact ⟨j + 1, by omega, by go_num, by rw [Hst.out, Hq.out], by rw [Hst.out, Hq.out]; simpa using hown2, hk5⟩
              case measure => simp [intOf]; omega
      · obtain rfl : j = l.length := by omega
        have Hput : ∀ s, putFrom p d0 (l.take l.length) = s → putEnd p d0 l = (if s.2 then s.1 else s.1 ++ [p]) := fun s hs => by rw [List.take_length] at hs; simp only [putEnd, hs]
        have hlen := putFrom_len p d0 l l.length (Nat.le_refl _)
        generalize putFrom p d0 (l.take l.length) = s at *
        have Hval := Lib.hid (Hput s rfl)
        obtain ⟨out, dn⟩ := s
        dsimp only at hlen
        clear Hput
        have hb0 : Below w.heap.size w wr := Hb01.out.next hbel (by omega)
        cases dn with
        | true =>
          obtain ⟨A5, c5, rfl, hcc5, hsl⟩ := hown.readg tenR_stays (by omega)
          by_cases hbig : 8 < out.length
          · have Hv := Lib.hid (show writtenS l x = ([], 11) by rw [Hws2.out, Hval.out]; simp [hbig])
            clear hown hsl
            go_wp2
            go_ret2
            rw [Hv.out]
            exact ⟨none, 0, rfl, Nat.le_refl _, SL.nil, hb0⟩
          · have Hv := Lib.hid (show writtenS l x = (out, 0) by rw [Hws2.out, Hval.out]; simp [hbig])
            have Hsl := Lib.hid hsl
            have Hcc := Lib.hid hcc5
            clear hown hsl hcc5
            go_wp2
            go_ret2
            rw [Hv.out]
            exact ⟨A5, c5, rfl, Hcc.out, Hsl.out, hb0⟩
        | false =>
          have Hown := Lib.hid hown
          obtain ⟨u9, hu9⟩ := Hbx.out
          obtain ⟨g0, _⟩ := box4 ((hbel.block _ hzb).trans hu9)
          clear hown hu9
          by_cases hbig : 8 < out.length + 1
          · have Hv := Lib.hid (show writtenS l x = ([], 11) by rw [Hws2.out, Hval.out]; simp [hbig])
            go_wp2_with (first
              | (go_at_call 17; (with_reducible refine (joinedNil_ok _ P x.name a ?ha g1).mono ?_); (case ha => exact Hp11.out.bbelow hbel); rintro e w6 ⟨A7, c7, rfl, gs7, hb6⟩; have hb6z := hb6.size; have hk6 := hbel.next hb6 (by first | exact Nat.le_refl _ | omega | (simp; done) | (simp; omega)))
              | (at_builtin; refine wpl_snoc tenR_stays (S := From w.heap.size) _ rfl (.tmp 95) (.tmp 101) _ rfl w1.heap.size 48 i0 _ 2 48 Tryz.underlying34 hi0 hz0 hz1 hz2 rfl (by decide) _ (out) rfl ?hown _ _ [.slice A7 x.name.length c7, .slice A3 nx.1.length c9] rfl rfl (new_src _ _ [.slice A7 x.name.length c7, .slice A3 nx.1.length c9] _ (by simp)) (by simp [Value.oneCell']) ?hm ?hby ?hba p ?hd ?_; (case hown => (refine Own.below tenR_stays Hown.out ?_; repeat' (first | exact Below.refl _ _ | assumption | refine Below.drew ?_ | refine below_drewN ?_ _ | refine Below.setCell ?_ (by first | (simp; done) | omega | (simp; omega)) _ | refine Below.alloc ?_ (by first | exact Nat.le_refl _ | omega | (simp; done) | (simp; omega)) _))); (case hm => ((try simp only [List.length_append, List.length_singleton]); simp only [maxLen]; omega)); (case hby => ((try simp only [List.length_append, List.length_singleton]); omega)); (case hba => (simp; omega)); (case hd => (rw [Hp.out]; refine ten_mixed (n := wr.heap.size) (t := (x.name, nx.1)) gs7 Hs3.out g1 (by show nx.1.length * 48 ≤ _; omega) hcap3 ?_ ?_ (by first | exact Nat.le_refl _ | omega | (simp; done) | (simp; omega)) (Hown.out.apart _ (Nat.le_refl _)) Hown.out.low; (repeat' (first | exact Same.refl _ _ | assumption | refine Same.drew ?_ | refine Same.drewN ?_ _ | refine Same.alloc ?_ _ | refine Same.setCell ?_ (fun hq => by simp only [From] at hq; first | omega | (simp at hq; done) | (simp at hq; omega)) _)); (exact hk6.alloc (by first | exact Nat.le_refl _ | omega | (simp; done) | (simp; omega)) _))); intro v1 w5 hown2 hbw2; obtain ⟨A5, c5, rfl, hcc5, hsl⟩ := hown2.readg tenR_stays (by omega); rw [List.length_append, List.length_singleton]; have Hsl := Lib.hid hsl; have Hcc := Lib.hid hcc5; clear hsl hown2 hcc5; have hb15 : Below w1.heap.size w1 w5 := (hk6.alloc (by first | exact Nat.le_refl _ | omega | (simp; done) | (simp; omega)) _).trans hbw2; have hb05 : Below w.heap.size w w5 := Hb01.out.next hb15 (by omega)))
            go_ret2
            rw [Hv.out]
            exact ⟨none, 0, rfl, Nat.le_refl _, SL.nil, hb05⟩
          · have Hv := Lib.hid (show writtenS l x = (out ++ [p], 0) by rw [Hws2.out, Hval.out]; simp [hbig])
            go_wp2_with (first
              | (go_at_call 17; (with_reducible refine (joinedNil_ok _ P x.name a ?ha g1).mono ?_); (case ha => exact Hp11.out.bbelow hbel); rintro e w6 ⟨A7, c7, rfl, gs7, hb6⟩; have hb6z := hb6.size; have hk6 := hbel.next hb6 (by first | exact Nat.le_refl _ | omega | (simp; done) | (simp; omega)))
              | (at_builtin; refine wpl_snoc tenR_stays (S := From w.heap.size) _ rfl (.tmp 95) (.tmp 101) _ rfl w1.heap.size 48 i0 _ 2 48 Tryz.underlying34 hi0 hz0 hz1 hz2 rfl (by decide) _ (out) rfl ?hown _ _ [.slice A7 x.name.length c7, .slice A3 nx.1.length c9] rfl rfl (new_src _ _ [.slice A7 x.name.length c7, .slice A3 nx.1.length c9] _ (by simp)) (by simp [Value.oneCell']) ?hm ?hby ?hba p ?hd ?_; (case hown => (refine Own.below tenR_stays Hown.out ?_; repeat' (first | exact Below.refl _ _ | assumption | refine Below.drew ?_ | refine below_drewN ?_ _ | refine Below.setCell ?_ (by first | (simp; done) | omega | (simp; omega)) _ | refine Below.alloc ?_ (by first | exact Nat.le_refl _ | omega | (simp; done) | (simp; omega)) _))); (case hm => ((try simp only [List.length_append, List.length_singleton]); simp only [maxLen]; omega)); (case hby => ((try simp only [List.length_append, List.length_singleton]); omega)); (case hba => (simp; omega)); (case hd => (rw [Hp.out]; refine ten_mixed (n := wr.heap.size) (t := (x.name, nx.1)) gs7 Hs3.out g1 (by show nx.1.length * 48 ≤ _; omega) hcap3 ?_ ?_ (by first | exact Nat.le_refl _ | omega | (simp; done) | (simp; omega)) (Hown.out.apart _ (Nat.le_refl _)) Hown.out.low; (repeat' (first | exact Same.refl _ _ | assumption | refine Same.drew ?_ | refine Same.drewN ?_ _ | refine Same.alloc ?_ _ | refine Same.setCell ?_ (fun hq => by simp only [From] at hq; first | omega | (simp at hq; done) | (simp at hq; omega)) _)); (exact hk6.alloc (by first | exact Nat.le_refl _ | omega | (simp; done) | (simp; omega)) _))); intro v1 w5 hown2 hbw2; obtain ⟨A5, c5, rfl, hcc5, hsl⟩ := hown2.readg tenR_stays (by omega); rw [List.length_append, List.length_singleton]; have Hsl := Lib.hid hsl; have Hcc := Lib.hid hcc5; clear hsl hown2 hcc5; have hb15 : Below w1.heap.size w1 w5 := (hk6.alloc (by first | exact Nat.le_refl _ | omega | (simp; done) | (simp; omega)) _).trans hbw2; have hb05 : Below w.heap.size w w5 := Hb01.out.next hb15 (by omega)))
            go_ret2
            rw [Hv.out]
            exact ⟨A5, c5, by simp, Hcc.out, Hsl.out, hb05⟩
end Go.Proofs.YthohkgggodhbcaaGreat
namespace Go.Proofs.YthohkgggodhbcaaGreat
open Go.RowKit
set_option linter.unusedVariables false
set_option linter.unusedSimpArgs false

def applyAll : List Wr → List Tn → List Tn × Int
  | [], l => (l, 0)
  | x :: xs, l => if (writeS l x).2 ≠ 0 then ([], (writeS l x).2) else applyAll xs (writeS l x).1
/-- What forest.Apply and Applied answer. -/
def appliedS (l : List Tn) (ws : List Wr) : List Tn × Int := if forestFaultS l ≠ 0 then ([], forestFaultS l) else if 10 < ws.length then ([], 1) else applyAll ws l
theorem applyAll_fine : ∀ (ws : List Wr) (l : List Tn), Fine l → Fine (applyAll ws l).1
  | [], _, h => h
  | x :: xs, l, h => by
    unfold applyAll
    by_cases h1 : (writeS l x).2 = 0
    · rw [if_neg (by simpa using h1)]
      exact applyAll_fine xs _ (writeS_fine h h1)
    · rw [if_pos h1]
      rfl
theorem appliedS_fine (l : List Tn) (ws : List Wr) : Fine (appliedS l ws).1 := by
  unfold appliedS
  by_cases h : forestFaultS l = 0
  · rw [if_neg (by simpa using h)]
    split
    · rfl
    · exact applyAll_fine ws l h
  · rw [if_pos h]
    rfl
theorem Fine.len {l : List Tn} (h : Fine l) : l.length ≤ 8 := ((ten_fault_iff l).1 h).1
theorem applyAll_bad {ws : List Wr} {l : List Tn} {k : Nat} (hk : k < ws.length) (h : (writeS l ws[k]).2 ≠ 0) : applyAll (ws.drop k) l = ([], (writeS l ws[k]).2) := by
  rw [List.drop_eq_getElem_cons hk]
  unfold applyAll
  rw [if_pos h]
theorem applyAll_next {ws : List Wr} {l : List Tn} {k : Nat} (hk : k < ws.length) (h : (writeS l ws[k]).2 = 0) : applyAll (ws.drop k) l = applyAll (ws.drop (k + 1)) (writeS l ws[k]).1 := by
  rw [List.drop_eq_getElem_cons hk]
  conv => lhs; unfold applyAll
  rw [if_neg (by simpa using h)]
set_option maxRecDepth 100000 in
set_option maxHeartbeats 1000000 in
theorem forestApply_ok (w : World) (A : Option Addr) (l : List Tn) (c : Nat) (B : Option Addr) (ws : List Wr) (d : Nat) (ha : Ts All w A l) (hw : Ws All w B ws) :
    Calls Tryz.prog 39 #[.slice A l.length c, .slice B ws.length d] w (RetTE w (appliedS l ws)) := by
  have Ha := Lib.hid ha
  have Hw := Lib.hid hw
  clear ha hw
  by_cases h1 : forestFaultS l = 0
  · have b1 : (forestFaultS l != 0) = false := by simp [h1]
    have Hfine := Lib.hid (show Fine l from h1)
    have hl8 := (show Fine l from h1).len
    by_cases h2 : 10 < ws.length
    · have Hv := Lib.hid (show appliedS l ws = ([], 1) by unfold appliedS; rw [if_neg (by simpa using h1), if_pos h2])
      clear h1
      go_enter Tryz.func39, Tryz.ntmps39
      go_wp2_with (go_at_call 44; refine (forestCheck_ok _ A l c Ha.out).mono ?_; rintro e w1 ⟨rfl, hb1⟩)
      go_ret2
      rw [Hv.out]
      exact ⟨none, 0, rfl, Nat.le_refl _, SL.nil, hb1⟩
    · have Hv := Lib.hid (show appliedS l ws = applyAll ws l by unfold appliedS; rw [if_neg (by simpa using h1), if_neg h2])
      have b2 : decide ((10 : Int) < (ws.length : Int)) = false := by rw [decide_eq_false_iff_not]; omega
      clear h1
      go_enter Tryz.func39, Tryz.ntmps39
      go_wp2_with (go_at_call 44; refine (forestCheck_ok _ A l c Ha.out).mono ?_; rintro e w1 ⟨rfl, hb1⟩)
      have Hb1 := Lib.hid hb1
      have hz1 := hb1.size
      clear hb1 b1
      refine (forestOwn_own _ A l c (Ha.out.below tenR_stays Hb1.out) (by omega)).mono ?_
      rintro e w2 ⟨v2, rfl, hown2, hb2⟩
      have Hown2 := Lib.hid hown2
      have Hb2 := Lib.hid hb2
      clear hown2 hb2
      go_wp2_with fail
      clear b2
      go_loopw [7, 24] (fun v i wr => ∃ (k : Nat) (cur : List Tn), k ≤ ws.length ∧ i = .int .i64 k ∧ applyAll (ws.drop k) cur = applyAll ws l ∧ Fine cur ∧ Own 2 TenR (From w1.heap.size) wr w1.heap.size 48 v cur ∧ Below w1.heap.size w1 wr) (fun _ i _ => ws.length - (intOf i).toNat)
      case atStart => exact ⟨0, l, by omega, rfl, rfl, Hfine.out, Hown2.out, Hb2.out⟩
      case round =>
        obtain ⟨k, cur, hk, rfl, hval, hfc, hown, hbel⟩ := hrel
        have Hval := Lib.hid hval
        have Hfc := Lib.hid hfc
        have Hown := Lib.hid hown
        have Hbel := Lib.hid hbel
        have hbz := hbel.size
        have Hb0 := Lib.hid (Hb1.out.next hbel hz1)
        clear hval hfc hown hbel
        by_cases hlt : k < ws.length
        · obtain ⟨g, off, A1, a1, B1, b1, C1, c1, rfl, _, hal, hc1, hc2, hc3, hc4, hs1, hs2, hs3, hb1, hb2, hb3⟩ := wrs_at (Hw.out.below wrR_stays Hb0.out) hlt
          by_cases he : (writeS cur ws[k]).2 = 0
          · have Hnext := Lib.hid (applyAll_next hlt he)
            have Hfn := Lib.hid (writeS_fine Hfc.out he)
            have c1' : ((writeS cur ws[k]).2 != 0) = false := by simp [he]
            have He := Lib.hid he
            generalize ws[k] = x at *
            clear he
            go_wp2_with (go_at_call 54; refine (forestWrite_ok _ w1.heap.size _ cur A1 B1 C1 x a1 b1 c1 (Hown.out.below tenR_stays ((Below.refl _ _).alloc (Nat.le_refl _) _)) (by simp; omega) Hfc.out (hs1.bz.bbelow ((Below.refl _ _).alloc (Nat.le_refl _) _)) (hs2.bz.bbelow ((Below.refl _ _).alloc (Nat.le_refl _) _)) (hs3.bz.bbelow ((Below.refl _ _).alloc (Nat.le_refl _) _)) hb1).mono ?_; rintro e w3 ⟨v3, rfl, hown3, hb4⟩; have Hown3 := Lib.hid (hown3 He.out); clear hown3)
            go_roundw
            case rel => exact ⟨k + 1, _, by omega, by go_num, by rw [← Hval.out, Hnext.out], Hfn.out, Hown3.out, (Hbel.out.alloc (by omega) _).trans hb4⟩
            case measure => simp [intOf]; omega
          · have Hbad := Lib.hid (applyAll_bad hlt he)
            have c1' : ((writeS cur ws[k]).2 != 0) = true := by simpa using he
            generalize ws[k] = x at *
            clear he
            go_wp2_with (go_at_call 54; refine (forestWrite_ok _ w1.heap.size _ cur A1 B1 C1 x a1 b1 c1 (Hown.out.below tenR_stays ((Below.refl _ _).alloc (Nat.le_refl _) _)) (by simp; omega) Hfc.out (hs1.bz.bbelow ((Below.refl _ _).alloc (Nat.le_refl _) _)) (hs2.bz.bbelow ((Below.refl _ _).alloc (Nat.le_refl _) _)) (hs3.bz.bbelow ((Below.refl _ _).alloc (Nat.le_refl _) _)) hb1).mono ?_; rintro e w3 ⟨v3, rfl, hown3, hb4⟩; clear hown3)
            go_ret2
            rw [Hv.out, ← Hval.out, Hbad.out]
            exact ⟨none, 0, rfl, Nat.le_refl _, SL.nil, (Hb0.out.alloc (by omega) _).trans (hb4.mono hz1)⟩
        · obtain rfl : k = ws.length := by omega
          have Hfin := Lib.hid (show applyAll ws l = (cur, 0) by rw [← Hval.out, List.drop_length]; rfl)
          obtain ⟨A5, c5, rfl, hcc, hsl⟩ := Hown.out.readc tenR_stays
          have Hcc := Lib.hid hcc
          have Hsl := Lib.hid hsl
          clear hcc hsl
          go_wp2
          go_ret2
          rw [Hv.out, Hfin.out]
          exact ⟨A5, c5, rfl, Hcc.out, Hsl.out.lo tenR_stays hz1, Hb0.out⟩
  · have b1 : (forestFaultS l != 0) = true := by simpa using h1
    have Hv := Lib.hid (show appliedS l ws = ([], forestFaultS l) by unfold appliedS; rw [if_pos h1])
    clear h1
    go_enter Tryz.func39, Tryz.ntmps39
    go_wp2_with (go_at_call 44; refine (forestCheck_ok _ A l c Ha.out).mono ?_; rintro e w1 ⟨rfl, hb1⟩)
    go_ret2
    rw [Hv.out]
    exact ⟨none, 0, rfl, Nat.le_refl _, SL.nil, hb1⟩
set_option maxRecDepth 100000 in
set_option maxHeartbeats 1000000 in
theorem applied_ok (w : World) (A : Option Addr) (l : List Tn) (c : Nat) (B : Option Addr) (ws : List Wr) (d : Nat) (ha : Ts All w A l) (hw : Ws All w B ws) :
    Calls Tryz.prog 51 #[.slice A l.length c, .slice B ws.length d] w (RetTE w (appliedS l ws)) := by
  have Ha := Lib.hid ha
  have Hw := Lib.hid hw
  clear ha hw
  by_cases h1 : forestFaultS l = 0
  · have b1 : (forestFaultS l == 0) = true := by simp [h1]
    have b1' : (forestFaultS l != 0) = false := by simp [h1]
    have Hfine := Lib.hid (show Fine l from h1)
    have hl8 := (show Fine l from h1).len
    by_cases h2 : 10 < ws.length
    · have Hv := Lib.hid (show appliedS l ws = ([], 1) by unfold appliedS; rw [if_neg (by simpa using h1), if_pos h2])
      have b2 : decide ((10 : Int) < (ws.length : Int)) = true := by rw [decide_eq_true_eq]; omega
      clear h1
      go_enter Tryz.func51, Tryz.ntmps51
      go_wp2_with (go_at_call 72; refine (forestFault_ok _ A l c Ha.out).mono ?_; rintro e w1 ⟨rfl, hb1⟩)
      go_ret2
      rw [Hv.out]
      exact ⟨none, 0, rfl, Nat.le_refl _, SL.nil, hb1⟩
    · have Hv := Lib.hid (show appliedS l ws = applyAll ws l by unfold appliedS; rw [if_neg (by simpa using h1), if_neg h2])
      have b2 : decide ((10 : Int) < (ws.length : Int)) = false := by rw [decide_eq_false_iff_not]; omega
      clear h1
      go_enter Tryz.func51, Tryz.ntmps51
      go_wp2_with (go_at_call 72; refine (forestFault_ok _ A l c Ha.out).mono ?_; rintro e w1 ⟨rfl, hb1⟩)
      have Hb1 := Lib.hid hb1
      have hz1 := hb1.size
      clear hb1 b1 b1'
      refine (forestCopy_ok _ A l c (Ha.out.below tenR_stays Hb1.out) (by omega)).mono ?_
      rintro e w2 ⟨A2, c2, rfl, hcap2, hs2, hb2⟩
      have Hs2 := Lib.hid hs2
      have Hc2 := Lib.hid hcap2
      have Hb2 := Lib.hid hb2
      clear hs2 hb2 hcap2
      go_wp2_with fail
      clear b2
      go_loopw [7, 8] (fun v i wr => ∃ (k : Nat) (cur : List Tn) (A3 : Option Addr) (c3 : Nat), k ≤ ws.length ∧ i = .int .i64 k ∧ v = .slice A3 cur.length c3 ∧ cur.length ≤ c3 ∧ applyAll (ws.drop k) cur = applyAll ws l ∧ Fine cur ∧ Ts (From w1.heap.size) wr A3 cur ∧ Below w1.heap.size w1 wr) (fun _ i _ => ws.length - (intOf i).toNat)
      case atStart => exact ⟨0, l, A2, c2, by omega, rfl, rfl, Hc2.out, rfl, Hfine.out, Hs2.out, Hb2.out⟩
      case round =>
        obtain ⟨k, cur, A3, c3, hk, rfl, rfl, hcap3, hval, hfc, hs3, hbel⟩ := hrel
        have Hval := Lib.hid hval
        have Hfc := Lib.hid hfc
        have Hs3 := Lib.hid hs3
        have Hcap3 := Lib.hid hcap3
        have Hbel := Lib.hid hbel
        have hbz := hbel.size
        have Hb0 := Lib.hid (Hb1.out.next hbel hz1)
        have hc8 := hfc.len
        clear hval hfc hs3 hbel hcap3
        by_cases hlt : k < ws.length
        · obtain ⟨g, off, A1, a1, B1, b1, C1, c1, rfl, _, hal, hc1, hc2, hc3, hc4, hs1, hs2, hs3, hb1, hb2, hb3⟩ := wrs_at (Hw.out.below wrR_stays Hb0.out) hlt
          have Hcells := Lib.hid (show ∀ W, Below wr.heap.size wr W → W.cell? ⟨g, off + k * 4, none⟩ = some (.slice A1 ws[k].name.length a1) ∧ W.cell? ⟨g, off + k * 4 + 1, none⟩ = some (.slice B1 ws[k].key.length b1) ∧ W.cell? ⟨g, off + k * 4 + 2, none⟩ = some (.bool ws[k].flag) ∧ W.cell? ⟨g, off + k * 4 + 3, none⟩ = some (.slice C1 ws[k].value.length c1) from fun W hW => ⟨(hW.cell hal).trans hc1, (hW.cell hal).trans hc2, (hW.cell hal).trans hc3, (hW.cell hal).trans hc4⟩)
          by_cases hwf : writeFaultS ws[k] = 0
          · have Hws := Lib.hid (show writeS cur ws[k] = writtenS cur ws[k] by unfold writeS; rw [if_neg (by simpa using hwf)])
            have d1 : (writeFaultS ws[k] != 0) = false := by simp [hwf]
            by_cases he : (writtenS cur ws[k]).2 = 0
            · have he' : (writeS cur ws[k]).2 = 0 := by rw [Hws.out]; exact he
              have Hnext := Lib.hid (applyAll_next hlt he')
              have Hfn := Lib.hid (writeS_fine Hfc.out he')
              have d2 : ((writtenS cur ws[k]).2 != 0) = false := by simp [he]
              generalize ws[k] = x at *
              clear he he' hwf
              go_wp2_with (first
                | (go_at_call 71; refine (writeFault_ok _ A1 B1 C1 x a1 b1 c1).mono ?_; rintro e w3 ⟨rfl, hb4⟩; obtain ⟨q1, q2, q3, q4⟩ := Hcells.out w3 hb4; have hz4 := hb4.size)
                | (go_at_call 74; refine (written_ok _ A3 cur c3 A1 B1 C1 x a1 b1 c1 ((Hs3.out.z tenR_stays).below tenR_stays hb4) (hs1.bz.bbelow hb4) (hs2.bz.bbelow hb4) (hs3.bz.bbelow hb4) hb1 hc8).mono ?_; rintro e w4 ⟨A5, c5, rfl, hcap5, hs5, hb5⟩; have Hs5 := Lib.hid hs5; have Hcap5 := Lib.hid hcap5; clear hs5 hcap5))
              go_roundw
              case rel => exact ⟨k + 1, (writtenS cur x).1, A5, c5, by omega, by go_num, rfl, Hcap5.out, by rw [← Hval.out, Hnext.out, Hws.out], by rw [← Hws.out]; exact Hfn.out, Hs5.out.lo tenR_stays (by omega), (Hbel.out.next hb4 hbz).next hb5 (by omega)⟩
              case measure => simp [intOf]; omega
            · have he' : (writeS cur ws[k]).2 ≠ 0 := by rw [Hws.out]; exact he
              have Hbad := Lib.hid (applyAll_bad hlt he')
              have d2 : ((writtenS cur ws[k]).2 != 0) = true := by simpa using he
              generalize ws[k] = x at *
              clear he he' hwf
              go_wp2_with (first
                | (go_at_call 71; refine (writeFault_ok _ A1 B1 C1 x a1 b1 c1).mono ?_; rintro e w3 ⟨rfl, hb4⟩; obtain ⟨q1, q2, q3, q4⟩ := Hcells.out w3 hb4; have hz4 := hb4.size)
                | (go_at_call 74; refine (written_ok _ A3 cur c3 A1 B1 C1 x a1 b1 c1 ((Hs3.out.z tenR_stays).below tenR_stays hb4) (hs1.bz.bbelow hb4) (hs2.bz.bbelow hb4) (hs3.bz.bbelow hb4) hb1 hc8).mono ?_; rintro e w4 ⟨A5, c5, rfl, hcap5, hs5, hb5⟩; clear hs5 hcap5))
              go_ret2
              rw [Hv.out, ← Hval.out, Hbad.out, Hws.out]
              exact ⟨none, 0, rfl, Nat.le_refl _, SL.nil, (Hb0.out.next hb4 (by omega)).next hb5 (by omega)⟩
          · have he' : (writeS cur ws[k]).2 = writeFaultS ws[k] := by unfold writeS; rw [if_pos hwf]
            have Hbad := Lib.hid (show applyAll (ws.drop k) cur = ([], writeFaultS ws[k]) by rw [applyAll_bad hlt (by rw [he']; exact hwf), he'])
            have d1 : (writeFaultS ws[k] != 0) = true := by simpa using hwf
            generalize ws[k] = x at *
            clear he' hwf
            go_wp2_with (go_at_call 71; refine (writeFault_ok _ A1 B1 C1 x a1 b1 c1).mono ?_; rintro e w3 ⟨rfl, hb4⟩)
            go_ret2
            rw [Hv.out, ← Hval.out, Hbad.out]
            exact ⟨none, 0, rfl, Nat.le_refl _, SL.nil, Hb0.out.next hb4 (by omega)⟩
        · obtain rfl : k = ws.length := by omega
          have Hfin := Lib.hid (show applyAll ws l = (cur, 0) by rw [← Hval.out, List.drop_length]; rfl)
          go_wp2
          go_ret2
          rw [Hv.out, Hfin.out]
          exact ⟨A3, c3, rfl, Hcap3.out, Hs3.out.lo tenR_stays hz1, Hb0.out⟩
  · have b1 : (forestFaultS l == 0) = false := by simpa using h1
    have b1' : (forestFaultS l != 0) = true := by simpa using h1
    have Hv := Lib.hid (show appliedS l ws = ([], forestFaultS l) by unfold appliedS; rw [if_pos h1])
    clear h1
    go_enter Tryz.func51, Tryz.ntmps51
    go_wp2_with (go_at_call 72; refine (forestFault_ok _ A l c Ha.out).mono ?_; rintro e w1 ⟨rfl, hb1⟩)
    go_ret2
    rw [Hv.out]
    exact ⟨none, 0, rfl, Nat.le_refl _, SL.nil, hb1⟩
end Go.Proofs.YthohkgggodhbcaaGreat
namespace Go.Proofs.YthohkgggodhbcaaGreat
open Go.RowKit
set_option linter.unusedVariables false
set_option linter.unusedSimpArgs false

theorem writes_ok (w : World) (A : Option Addr) (l : List Wr) (c : Nat) (ha : Ws All w A l) (hn : l.length * 80 ≤ 140737488355328) :
    Calls Tryz.prog 21 #[.slice A l.length c] w (RetSLc 4 WrR w l) :=
  (writes_own w A l c ha hn).mono fun _ _ ⟨_, he, h, hb⟩ => by
    obtain ⟨A', c', rfl, hcap, hsl⟩ := h.readc wrR_stays
    exact ⟨A', c', he, hcap, hsl, hb⟩
end Go.Proofs.YthohkgggodhbcaaGreat
