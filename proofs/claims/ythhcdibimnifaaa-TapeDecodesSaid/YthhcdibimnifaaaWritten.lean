/- Walk: written of the references. -/
import Derived.Test.YthhcdibimnifaaaWriteS
import Derived.Test.YthhcdibimnifaaaTenCopy
import Derived.Test.YthhcdibimnifaaaPut
import Derived.Test.YthhcdibimnifaaaDel
namespace Go.Proofs.Ythhcdibimnifaaa
open Go.RowKit
set_option linter.unusedVariables false
set_option linter.unusedSimpArgs false

/-- The call returns tenants and a number. -/
def RetTE (w : World) (r : List Tn × Int) (e : Ending) (w' : World) : Prop :=
  ∃ A c, e = .returned (.tuple #[.slice A r.1.length c, .int .i64 r.2]) ∧ r.1.length ≤ c ∧ Ts (From w.heap.size) w' A r.1 ∧ Below w.heap.size w w'
theorem Own.low {α : Type} {size : Nat} {R : (Nat → Prop) → World → List Value → α → Prop} {S : Nat → Prop} {w : World} {base : Nat} {e : TypeId} {v : Value} {l : List α} (h : Own size R S w base e v l) : ∀ b, v.ownBlock = some b → base ≤ b := by
  obtain ⟨xs, h1, _⟩ := h
  exact fun b hb => (h1.lt b hb).1
theorem Own.readg {α : Type} {size b0 : Nat} {R : (Nat → Prop) → World → List Value → α → Prop} {w : World} {base : Nat} {e : TypeId} {v : Value} {l : List α} (hR : Stays R) (h : Own size R (From b0) w base e v l) (hb : b0 ≤ base) : ∃ A c, v = .slice A l.length c ∧ l.length ≤ c ∧ SL size R (From b0) w A l := by
  obtain ⟨xs, h1, h2⟩ := h
  have h1' := h1
  rcases h1.2 with ⟨rfl, h0⟩ | ⟨g, cap, cur, rfl, hge, hh, hcap, _⟩
  · have hl := List.eq_nil_of_length_eq_zero h0
    subst hl
    exact ⟨none, 0, rfl, Nat.le_refl _, SL.nil⟩
  · refine ⟨_, cap, rfl, hcap, fun _ => ⟨g, 0, rfl, Nat.le_trans hb hge, (Array.getElem?_eq_some_iff.1 hh).1, fun i hi => ⟨_, ?_, fun j hj => ?_, hR.less _ _ _ _ _ (fun b _ hs => hs.1) (h2 i hi)⟩⟩⟩
    · rw [List.length_take, List.length_drop, h1'.1]
      have : (i + 1) * size ≤ l.length * size := Nat.mul_le_mul_right _ hi
      rw [Nat.add_mul, Nat.one_mul] at this
      omega
    · have hlt : i * size + j < xs.length := by
        rw [h1'.1]
        have : (i + 1) * size ≤ l.length * size := Nat.mul_le_mul_right _ hi
        rw [Nat.add_mul, Nat.one_mul] at this
        omega
      have hc := h1'.cells (g := g) rfl (i * size + j) xs[i * size + j] (List.getElem?_eq_getElem hlt)
      rw [add_at] at hc
      rw [Nat.add_assoc, hc]
      rw [List.getElem?_take_of_lt hj, List.getElem?_drop, List.getElem?_eq_getElem hlt]
/-- A tenant of a new name and of pairs that were made before. -/
theorem ten_mixed {w1 wk W : World} {v : Value} {b0 n : Nat} {A B : Option Addr} {t : Tn} {c d : Nat} (h1 : Bs (From n) wk A t.1) (h2 : Ps (From b0) w1 B t.2) (g1 : t.1.length ≤ big) (g2 : t.2.length * 48 ≤ 140737488355328) (g3 : t.2.length ≤ d) (hs : Same (From n) wk W) (hbel : Below w1.heap.size w1 W) (hb : b0 ≤ n) (hap : ∀ b, From n b → v.ownBlock ≠ some b) (hlow : ∀ b, v.ownBlock = some b → w1.heap.size ≤ b) :
    TenR (fun b => From b0 b ∧ v.ownBlock ≠ some b) W [.slice A t.1.length c, .slice B t.2.length d] t :=
  ⟨A, c, B, d, rfl, (h1.bsame hs).bless fun b _ h => ⟨Nat.le_trans hb h, hap b h⟩, (h2.less pairR_stays fun b hlt h => ⟨h, fun e => by have := hlow b e; omega⟩).below pairR_stays hbel, g1, g2, g3⟩

set_option maxRecDepth 100000 in
set_option maxHeartbeats 4000000 in
theorem written_ok (w : World) (A : Option Addr) (l : List Tn) (c : Nat) (P Q V : Option Addr) (x : Wr) (a b d : Nat) (ha : Ts All w A l) (hp1 : Bs All w P x.name) (hp2 : Bs All w Q x.key) (hp3 : Bs All w V x.value) (g1 : x.name.length ≤ big) (hl8 : l.length ≤ 8) :
    Calls Try.prog 113 #[.slice A l.length c, .agg #[.slice P x.name.length a, .slice Q x.key.length b, .bool x.flag, .slice V x.value.length d]] w (RetTE w (writtenS l x)) := by
  obtain ⟨i0, hi0, hz0, hz1, hz2⟩ := info_parts info_ten
  have Ha := Lib.hid ha
  have Hp1 := Lib.hid hp1
  have Hp2 := Lib.hid hp2
  have Hp3 := Lib.hid hp3
  clear ha hp1 hp2 hp3
  obtain ⟨nx, hnx⟩ : ∃ nx, nx = nextS (pairsOfS l x.name) x := ⟨_, rfl⟩
  have hn60 : nx.1.length ≤ 60 := by rw [hnx]; exact nextS_len _ _
  have hws : writtenS l x = if nx.2 ≠ 0 then ([], nx.2) else if 8 < (putEnd (x.name, nx.1) (nx.1.length == 0) l).length then ([], 11) else (putEnd (x.name, nx.1) (nx.1.length == 0) l, 0) := by rw [hnx]; rfl
  have Hws := Lib.hid hws
  have Hnx := Lib.hid hnx
  clear hws hnx
  by_cases hne : nx.2 = 0
  rotate_left
  · have b1 : (nx.2 != 0) = true := by simpa using hne
    have Hv := Lib.hid (show writtenS l x = ([], nx.2) by rw [Hws.out, if_pos hne])
    clear hne
    rcases Bool.eq_false_or_eq_true x.flag with hf | hf
    · skip
      have Hf := Lib.hid hf
      rw [hf]
      clear hf
      have Hb0 := Lib.hid (show ∀ W, Below (w.heap.size + 1) (w.alloc (.cells #[.slice P x.name.length a, .slice Q x.key.length b, .bool true, .slice V x.value.length d] 94)) W → W.heap[w.heap.size]? = some (.cells #[.slice P x.name.length a, .slice Q x.key.length b, .bool true, .slice V x.value.length d] 94 (0, 0)) ∧ Below w.heap.size w W ∧ w.heap.size < W.heap.size from fun W hW => ⟨(hW.block _ (by omega)).trans (box_new w _ _), ((Below.refl w.heap.size w).alloc (Nat.le_refl _) _).trans (hW.mono (by omega)), by have := hW.size; simp at this; omega⟩)
      go_enter Try.func113, Try.ntmps113
      go_wp2_with (first
        | (go_at_call 109; refine (pairsOf_ok _ A l c P x.name a (Ha.out.below tenR_stays ?_) (Hp1.out.bbelow ?_) (by omega)).mono ?_; (repeat' (first | exact Below.refl _ _ | assumption | refine Below.drew ?_ | refine below_drewN ?_ _ | refine Below.alloc ?_ (by first | exact Nat.le_refl _ | omega | (simp; done) | (simp; omega)) _)); (repeat' (first | exact Below.refl _ _ | assumption | refine Below.drew ?_ | refine below_drewN ?_ _ | refine Below.alloc ?_ (by first | exact Nat.le_refl _ | omega | (simp; done) | (simp; omega)) _)); rintro e w2 ⟨A2, c2, rfl, hs2, hl2, _, hb2'⟩; have hb2 := (hb2'.mono (show w.heap.size + 1 ≤ _ by simp)); obtain ⟨q0, q1, q2, q3, _⟩ := box4 (Hb0.out w2 hb2).1; have hw2 := (Hb0.out w2 hb2).2.1; have hz2w := (Hb0.out w2 hb2).2.2)
        | (go_at_call 32; refine (deletedOf_ok _ A2 (pairsOfS l x.name) c2 Q x.key b hs2 (Hp2.out.bbelow hw2)).mono ?_; rintro e w1 ⟨A3, c9, rfl, hcap3, hs3, hb3⟩; have hN : delS (pairsOfS l x.name) x.key = nx := (by rw [Hnx.out]; unfold nextS; rw [if_pos Hf.out]); rw [hN] at hcap3 hs3 ⊢; clear hN))
      have hb1 := hb2.next hb3 (by omega)
      have Hbx := Lib.hid (show ∃ u, w1.heap[w.heap.size]? = some (.cells #[.slice P x.name.length a, .slice Q x.key.length b, u, .slice V x.value.length d] 94 (0, 0)) from ⟨_, (Hb0.out w1 hb1).1⟩)
      have Hb01 := Lib.hid (Hb0.out w1 hb1).2.1
      have hzb := (Hb0.out w1 hb1).2.2
      have Hs3 := Lib.hid (hs3.lo pairR_stays (show w.heap.size ≤ w2.heap.size by omega))
      clear hb1 hb2 hb2' hb3 hs3 hs2 Hb0 q0 q1 q2 q3 hw2 hz2w Hf
      go_ret2
      rw [Hv.out]
      exact ⟨none, 0, rfl, Nat.le_refl _, SL.nil, Hb01.out⟩
    · skip
      have Hf := Lib.hid hf
      rw [hf]
      clear hf
      have Hb0 := Lib.hid (show ∀ W, Below (w.heap.size + 1) (w.alloc (.cells #[.slice P x.name.length a, .slice Q x.key.length b, .bool false, .slice V x.value.length d] 94)) W → W.heap[w.heap.size]? = some (.cells #[.slice P x.name.length a, .slice Q x.key.length b, .bool false, .slice V x.value.length d] 94 (0, 0)) ∧ Below w.heap.size w W ∧ w.heap.size < W.heap.size from fun W hW => ⟨(hW.block _ (by omega)).trans (box_new w _ _), ((Below.refl w.heap.size w).alloc (Nat.le_refl _) _).trans (hW.mono (by omega)), by have := hW.size; simp at this; omega⟩)
      go_enter Try.func113, Try.ntmps113
      go_wp2_with (first
        | (go_at_call 109; refine (pairsOf_ok _ A l c P x.name a (Ha.out.below tenR_stays ?_) (Hp1.out.bbelow ?_) (by omega)).mono ?_; (repeat' (first | exact Below.refl _ _ | assumption | refine Below.drew ?_ | refine below_drewN ?_ _ | refine Below.alloc ?_ (by first | exact Nat.le_refl _ | omega | (simp; done) | (simp; omega)) _)); (repeat' (first | exact Below.refl _ _ | assumption | refine Below.drew ?_ | refine below_drewN ?_ _ | refine Below.alloc ?_ (by first | exact Nat.le_refl _ | omega | (simp; done) | (simp; omega)) _)); rintro e w2 ⟨A2, c2, rfl, hs2, hl2, _, hb2'⟩; have hb2 := (hb2'.mono (show w.heap.size + 1 ≤ _ by simp)); obtain ⟨q0, q1, q2, q3, _⟩ := box4 (Hb0.out w2 hb2).1; have hw2 := (Hb0.out w2 hb2).2.1; have hz2w := (Hb0.out w2 hb2).2.2)
        | (go_at_call 35; refine (putOf_ok _ A2 (pairsOfS l x.name) c2 Q V (x.key, x.value) b d hs2 (Hp2.out.bbelow hw2) (Hp3.out.bbelow hw2)).mono ?_; rintro e w1 ⟨A3, c9, rfl, hcap3, hs3, hb3⟩; have hN : putS (pairsOfS l x.name) (x.key, x.value) = nx := (by rw [Hnx.out]; unfold nextS; rw [if_neg (by rw [Hf.out]; decide)]); rw [hN] at hcap3 hs3 ⊢; clear hN))
      have hb1 := hb2.next hb3 (by omega)
      have Hbx := Lib.hid (show ∃ u, w1.heap[w.heap.size]? = some (.cells #[.slice P x.name.length a, .slice Q x.key.length b, u, .slice V x.value.length d] 94 (0, 0)) from ⟨_, (Hb0.out w1 hb1).1⟩)
      have Hb01 := Lib.hid (Hb0.out w1 hb1).2.1
      have hzb := (Hb0.out w1 hb1).2.2
      have Hs3 := Lib.hid (hs3.lo pairR_stays (show w.heap.size ≤ w2.heap.size by omega))
      clear hb1 hb2 hb2' hb3 hs3 hs2 Hb0 q0 q1 q2 q3 hw2 hz2w Hf
      go_ret2
      rw [Hv.out]
      exact ⟨none, 0, rfl, Nat.le_refl _, SL.nil, Hb01.out⟩
  have b1 : (nx.2 != 0) = false := by simp [hne]
  obtain ⟨p, hp⟩ : ∃ p : Tn, p = (x.name, nx.1) := ⟨_, rfl⟩
  obtain ⟨d0, hd0⟩ : ∃ d0 : Bool, d0 = (nx.1.length == 0) := ⟨_, rfl⟩
  have Hws2 := Lib.hid (show writtenS l x = if 8 < (putEnd p d0 l).length then ([], 11) else (putEnd p d0 l, 0) by rw [Hws.out, if_neg (by simpa using hne), hp, hd0])
  have b2 : ((nx.1.length : Int) == 0) = d0 := by rw [hd0, Bool.eq_iff_iff]; simp
  have Hp := Lib.hid hp
  clear hne hp hd0 Hws
  rcases Bool.eq_false_or_eq_true x.flag with hf | hf
  have Hf := Lib.hid hf
  rw [hf]
  clear hf
  have Hb0 := Lib.hid (show ∀ W, Below (w.heap.size + 1) (w.alloc (.cells #[.slice P x.name.length a, .slice Q x.key.length b, .bool true, .slice V x.value.length d] 94)) W → W.heap[w.heap.size]? = some (.cells #[.slice P x.name.length a, .slice Q x.key.length b, .bool true, .slice V x.value.length d] 94 (0, 0)) ∧ Below w.heap.size w W ∧ w.heap.size < W.heap.size from fun W hW => ⟨(hW.block _ (by omega)).trans (box_new w _ _), ((Below.refl w.heap.size w).alloc (Nat.le_refl _) _).trans (hW.mono (by omega)), by have := hW.size; simp at this; omega⟩)
  go_enter Try.func113, Try.ntmps113
  go_wp2_with (first
    | (go_at_call 109; refine (pairsOf_ok _ A l c P x.name a (Ha.out.below tenR_stays ?_) (Hp1.out.bbelow ?_) (by omega)).mono ?_; (repeat' (first | exact Below.refl _ _ | assumption | refine Below.drew ?_ | refine below_drewN ?_ _ | refine Below.alloc ?_ (by first | exact Nat.le_refl _ | omega | (simp; done) | (simp; omega)) _)); (repeat' (first | exact Below.refl _ _ | assumption | refine Below.drew ?_ | refine below_drewN ?_ _ | refine Below.alloc ?_ (by first | exact Nat.le_refl _ | omega | (simp; done) | (simp; omega)) _)); rintro e w2 ⟨A2, c2, rfl, hs2, hl2, _, hb2'⟩; have hb2 := (hb2'.mono (show w.heap.size + 1 ≤ _ by simp)); obtain ⟨q0, q1, q2, q3, _⟩ := box4 (Hb0.out w2 hb2).1; have hw2 := (Hb0.out w2 hb2).2.1; have hz2w := (Hb0.out w2 hb2).2.2)
    | (go_at_call 32; refine (deletedOf_ok _ A2 (pairsOfS l x.name) c2 Q x.key b hs2 (Hp2.out.bbelow hw2)).mono ?_; rintro e w1 ⟨A3, c9, rfl, hcap3, hs3, hb3⟩; have hN : delS (pairsOfS l x.name) x.key = nx := (by rw [Hnx.out]; unfold nextS; rw [if_pos Hf.out]); rw [hN] at hcap3 hs3 ⊢; clear hN))
  have hb1 := hb2.next hb3 (by omega)
  have Hbx := Lib.hid (show ∃ u, w1.heap[w.heap.size]? = some (.cells #[.slice P x.name.length a, .slice Q x.key.length b, u, .slice V x.value.length d] 94 (0, 0)) from ⟨_, (Hb0.out w1 hb1).1⟩)
  have Hb01 := Lib.hid (Hb0.out w1 hb1).2.1
  have hzb := (Hb0.out w1 hb1).2.2
  have Hs3 := Lib.hid (hs3.lo pairR_stays (show w.heap.size ≤ w2.heap.size by omega))
  clear hb1 hb2 hb2' hb3 hs3 hs2 Hb0 q0 q1 q2 q3 hw2 hz2w Hf
  rotate_left
  have Hf := Lib.hid hf
  rw [hf]
  clear hf
  have Hb0 := Lib.hid (show ∀ W, Below (w.heap.size + 1) (w.alloc (.cells #[.slice P x.name.length a, .slice Q x.key.length b, .bool false, .slice V x.value.length d] 94)) W → W.heap[w.heap.size]? = some (.cells #[.slice P x.name.length a, .slice Q x.key.length b, .bool false, .slice V x.value.length d] 94 (0, 0)) ∧ Below w.heap.size w W ∧ w.heap.size < W.heap.size from fun W hW => ⟨(hW.block _ (by omega)).trans (box_new w _ _), ((Below.refl w.heap.size w).alloc (Nat.le_refl _) _).trans (hW.mono (by omega)), by have := hW.size; simp at this; omega⟩)
  go_enter Try.func113, Try.ntmps113
  go_wp2_with (first
    | (go_at_call 109; refine (pairsOf_ok _ A l c P x.name a (Ha.out.below tenR_stays ?_) (Hp1.out.bbelow ?_) (by omega)).mono ?_; (repeat' (first | exact Below.refl _ _ | assumption | refine Below.drew ?_ | refine below_drewN ?_ _ | refine Below.alloc ?_ (by first | exact Nat.le_refl _ | omega | (simp; done) | (simp; omega)) _)); (repeat' (first | exact Below.refl _ _ | assumption | refine Below.drew ?_ | refine below_drewN ?_ _ | refine Below.alloc ?_ (by first | exact Nat.le_refl _ | omega | (simp; done) | (simp; omega)) _)); rintro e w2 ⟨A2, c2, rfl, hs2, hl2, _, hb2'⟩; have hb2 := (hb2'.mono (show w.heap.size + 1 ≤ _ by simp)); obtain ⟨q0, q1, q2, q3, _⟩ := box4 (Hb0.out w2 hb2).1; have hw2 := (Hb0.out w2 hb2).2.1; have hz2w := (Hb0.out w2 hb2).2.2)
    | (go_at_call 35; refine (putOf_ok _ A2 (pairsOfS l x.name) c2 Q V (x.key, x.value) b d hs2 (Hp2.out.bbelow hw2) (Hp3.out.bbelow hw2)).mono ?_; rintro e w1 ⟨A3, c9, rfl, hcap3, hs3, hb3⟩; have hN : putS (pairsOfS l x.name) (x.key, x.value) = nx := (by rw [Hnx.out]; unfold nextS; rw [if_neg (by rw [Hf.out]; decide)]); rw [hN] at hcap3 hs3 ⊢; clear hN))
  have hb1 := hb2.next hb3 (by omega)
  have Hbx := Lib.hid (show ∃ u, w1.heap[w.heap.size]? = some (.cells #[.slice P x.name.length a, .slice Q x.key.length b, u, .slice V x.value.length d] 94 (0, 0)) from ⟨_, (Hb0.out w1 hb1).1⟩)
  have Hb01 := Lib.hid (Hb0.out w1 hb1).2.1
  have hzb := (Hb0.out w1 hb1).2.2
  have Hs3 := Lib.hid (hs3.lo pairR_stays (show w.heap.size ≤ w2.heap.size by omega))
  clear hb1 hb2 hb2' hb3 hs3 hs2 Hb0 q0 q1 q2 q3 hw2 hz2w Hf
  rotate_left
  all_goals
    have Ha1 := Lib.hid (Ha.out.below tenR_stays Hb01.out)
    have Hp11 := Lib.hid (Hp1.out.bbelow Hb01.out)
    clear Hnx b1 b2
    go_loopw [9, 10, 11] (fun v dd i wr => ∃ j : Nat, j ≤ l.length ∧ i = .int .i64 j ∧ dd = .bool (putFrom p d0 (l.take j)).2 ∧ Own 2 TenR (From w.heap.size) wr w1.heap.size 122 v ((putFrom p d0 (l.take j)).1) ∧ Below w1.heap.size w1 wr) (fun _ _ i _ => l.length - (intOf i).toNat)
    case atStart => exact ⟨0, by omega, rfl, rfl, Own.nil _ _ _, Below.refl _ _⟩
    case round =>
      obtain ⟨j, hj, rfl, rfl, hown, hbel⟩ := hrel
      have hbz := hbel.size
      by_cases hlt : j < l.length
      · have Hst := Lib.hid (putFrom_snoc (p := p) (d := d0) hlt)
        have Hlen := Lib.hid (putFrom_len p d0 l j hj)
        obtain ⟨ab, ao, K0, c3, V0, d3, rfl, _, hal, hc1, hc2, hs1, hs2, hb1, hb2, _⟩ := tens_at Ha1.out hlt
        have Hcells := Lib.hid (show ∀ W, Below w1.heap.size w1 W → (W.cell? ⟨w.heap.size, 0, none⟩ = some (.slice P x.name.length a) ∧ W.cell? ⟨ab, ao + j * 2, none⟩ = some (.slice K0 l[j].1.length c3) ∧ W.cell? ⟨ab, ao + j * 2 + 1, none⟩ = some (.slice V0 l[j].2.length d3)) from fun W hW => by
          obtain ⟨u, hu⟩ := Hbx.out
          obtain ⟨g0, _⟩ := box4 ((hW.block _ hzb).trans hu)
          exact ⟨g0, (hW.cell hal).trans hc1, (hW.cell hal).trans hc2⟩)
        clear hc1 hc2
        obtain ⟨g0, hc1, hc2⟩ := Hcells.out wr hbel
        generalize l[j] = y at *
        have Hstep : ∀ s, putFrom p d0 (l.take j) = s → putFrom p d0 (l.take (j + 1)) = putStep p s y := fun s hs => by rw [Hst.out, hs]
        clear Hst
        generalize putFrom p d0 (l.take j) = s at *
        have Hst := Lib.hid (Hstep s rfl)
        clear Hstep
        obtain ⟨out, dn⟩ := s
        have Hown := Lib.hid hown
        have hlen := Hlen.out
        have hi0' : (0 : Int) ≤ (j : Int) := by omega
        have hi1 : (j : Int) < (l.length : Int) := by omega
        have hpx : p.1 = x.name := by rw [Hp.out]
        have Hpx := Lib.hid hpx
        dsimp only at hlen
        clear hown hpx
        cases dn with
        | true =>
          rcases Bool.eq_false_or_eq_true (y.1 == x.name) with he | he
          · have Hq := Lib.hid (show putStep p (out, true) y = (out, true) by simp [putStep, Hpx.out, he])
            go_wp2_with fail
            go_quiet (fail)
            go_wp2_with fail
            go_quiet ((go_at_call 89; exact quiet_add_left ((refSameBytes_ok _ K0 P y.1 x.name c3 a ((hs1.bz.bbelow hbel).bsame (by repeat' (first | exact Same.refl _ _ | assumption | refine Same.drew ?_ | refine Same.drewN ?_ _ | refine Same.alloc ?_ _ | refine Same.setCell ?_ (fun hq => by simp only [From] at hq; first | omega | (simp at hq; done) | (simp at hq; omega)) _))) ((Hp11.out.bbelow hbel).bsame (by repeat' (first | exact Same.refl _ _ | assumption | refine Same.drew ?_ | refine Same.drewN ?_ _ | refine Same.alloc ?_ _ | refine Same.setCell ?_ (fun hq => by simp only [From] at hq; first | omega | (simp at hq; done) | (simp at hq; omega)) _)))))))
            go_wp2
            go_roundw
            case rel => exact ⟨j + 1, by omega, by go_num, by rw [Hst.out, Hq.out], by rw [Hst.out, Hq.out]; exact Hown.out.below tenR_stays (below_drewN (Below.refl _ _) _), below_drewN hbel _⟩
            case measure => simp [intOf]; omega
          · have Hq := Lib.hid (show putStep p (out, true) y = (out ++ [y], true) by simp [putStep, Hpx.out, he])
            go_wp2_with fail
            go_quiet (fail)
            go_wp2_with fail
            go_quiet ((go_at_call 89; exact quiet_add_left ((refSameBytes_ok _ K0 P y.1 x.name c3 a ((hs1.bz.bbelow hbel).bsame (by repeat' (first | exact Same.refl _ _ | assumption | refine Same.drew ?_ | refine Same.drewN ?_ _ | refine Same.alloc ?_ _ | refine Same.setCell ?_ (fun hq => by simp only [From] at hq; first | omega | (simp at hq; done) | (simp at hq; omega)) _))) ((Hp11.out.bbelow hbel).bsame (by repeat' (first | exact Same.refl _ _ | assumption | refine Same.drew ?_ | refine Same.drewN ?_ _ | refine Same.alloc ?_ _ | refine Same.setCell ?_ (fun hq => by simp only [From] at hq; first | omega | (simp at hq; done) | (simp at hq; omega)) _)))))))
            generalize hwz : World.drewN wr _ = wz
            have hbzz : Below w1.heap.size w1 wz := hwz ▸ below_drewN hbel _
            have Hownz := Lib.hid (show Own 2 TenR (From w.heap.size) wz w1.heap.size 122 _ (out) from hwz ▸ Hown.out.below tenR_stays (below_drewN (Below.refl _ _) _))
            clear hwz
            generalize hwq : World.drewN wz _ = wq
            have hbq : Below w1.heap.size w1 wq := hwq ▸ below_drewN hbzz _
            have Hownq := Lib.hid (show Own 2 TenR (From w.heap.size) wq w1.heap.size 122 _ (out) from hwq ▸ Hownz.out.below tenR_stays (below_drewN (Below.refl _ _) _))
            clear hwq
            have hbqz := hbq.size
            obtain ⟨g2, hc3, hc4⟩ := Hcells.out wq hbq
            go_wp2_with fail
            go_region_held3 (fun w' => w'.cell? ⟨ab, ao + j * 2, none⟩ = some (.slice K0 y.1.length c3) ∧ w'.cell? ⟨ab, ao + j * 2 + 1, none⟩ = some (.slice V0 y.2.length d3))
              (first | go_keep | exact (Hcells.out _ hk5).2 | exact (Hcells.out _ hk4).2 | exact (Hcells.out _ hk3).2)
              (first
                | (go_at_call 90; (with_reducible refine (joinedNil_ok _ K0 y.1 c3 ?ha hb1).mono ?_); (case ha => exact (hs1.bz.bbelow hbq).bsame (by repeat' (first | exact Same.refl _ _ | assumption | refine Same.drew ?_ | refine Same.drewN ?_ _ | refine Same.alloc ?_ _ | refine Same.setCell ?_ (fun hq => by simp only [From] at hq; first | omega | (simp at hq; done) | (simp at hq; omega)) _))); rintro e w3 ⟨A5, c5, rfl, gs1, hbw3⟩; have hk3 : Below w1.heap.size w1 w3 := hbq.drew.next hbw3 (by first | exact Nat.le_refl _ | omega | (simp; done) | (simp; omega)); have hzw3 : wq.heap.size ≤ w3.heap.size := (by simpa using hbw3.size))
                | (go_at_call 87; (with_reducible refine (pairsCopy_cap _ V0 y.2 d3 ?ha hb2).mono ?_); (case ha => exact (hs2.z pairR_stays).below pairR_stays hk3); rintro e w4 ⟨A6, d6, rfl, gc2, gs2, hbw4⟩; have hzw4 : w3.heap.size ≤ w4.heap.size := hbw4.size; have hk4 : Below w1.heap.size w1 w4 := hk3.next hbw4 (by first | exact Nat.le_refl _ | omega | (simp; done) | (simp; omega)); have hq4 : Below wq.heap.size wq w4 := ((Below.refl wq.heap.size wq).drew.next hbw3 (by first | exact Nat.le_refl _ | omega | (simp; done) | (simp; omega))).next hbw4 (by first | exact Nat.le_refl _ | omega | (simp; done) | (simp; omega)))
                | (refine step_snoc tenR_stays (S := From w.heap.size) _ rfl (.tmp 77) (.tmp 91) _ rfl w1.heap.size 122 i0 _ 2 48 Try.underlying43 hi0 hz0 hz1 hz2 rfl (by decide) _ (out) rfl ?hown _ _ [.slice A5 y.1.length c5, .slice A6 y.2.length d6] rfl rfl (new_src _ _ [.slice A5 y.1.length c5, .slice A6 y.2.length d6] _ (by simp)) (by simp [Value.oneCell']) ?hm ?hby ?hba y ?hd ?_; (case hown => (refine Own.below tenR_stays Hownq.out ?_; repeat' (first | exact Below.refl _ _ | assumption | refine Below.drew ?_ | refine below_drewN ?_ _ | refine Below.setCell ?_ (by first | (simp; done) | omega | (simp; omega)) _ | refine Below.alloc ?_ (by first | exact Nat.le_refl _ | omega | (simp; done) | (simp; omega)) _))); (case hm => ((try simp only [List.length_append, List.length_singleton]); simp only [maxLen]; omega)); (case hby => ((try simp only [List.length_append, List.length_singleton]); omega)); (case hba => (simp; omega)); (case hd => (refine ten_fresh (n := wq.heap.size) (gs1.bbelow hbw4) (gs2.lo pairR_stays hzw3) hb1 hb2 gc2 ?_ (by first | exact Nat.le_refl _ | omega | (simp; done) | (simp; omega)) (Hownq.out.apart _ (Nat.le_refl _)); repeat' (first | exact Same.refl _ _ | assumption | refine Same.drew ?_ | refine Same.drewN ?_ _ | refine Same.alloc ?_ _ | refine Same.setCell ?_ (fun hq => by simp only [From] at hq; first | omega | (simp at hq; done) | (simp at hq; omega)) _))); intro v1 w5 hown2 hbw2; have hk5 : Below w1.heap.size w1 w5 := (hk4.alloc (by first | exact Nat.le_refl _ | omega | (simp; done) | (simp; omega)) _).trans hbw2))
            go_wp2
            go_roundw
            case rel => exact ⟨j + 1, by omega, by go_num, by rw [Hst.out, Hq.out], by rw [Hst.out, Hq.out]; simpa using hown2, hk5⟩
            case measure => simp [intOf]; omega
        | false =>
          rcases Bool.eq_false_or_eq_true (lt y.1 x.name) with ho | ho
          · have he : (y.1 == x.name) = false := by rw [beq_eq_false_iff_ne]; intro e; rw [e, lt_irrefl] at ho; cases ho
            have Hq := Lib.hid (show putStep p (out, false) y = (out ++ [y], false) by simp [putStep, Hpx.out, ho, he])
            go_wp2_with fail
            go_quiet ((go_at_call 93; exact quiet_left ((before_ok _ K0 P y.1 x.name c3 a ((hs1.bz.bbelow hbel).bsame (by repeat' (first | exact Same.refl _ _ | assumption | refine Same.drew ?_ | refine Same.drewN ?_ _ | refine Same.alloc ?_ _ | refine Same.setCell ?_ (fun hq => by simp only [From] at hq; first | omega | (simp at hq; done) | (simp at hq; omega)) _))) ((Hp11.out.bbelow hbel).bsame (by repeat' (first | exact Same.refl _ _ | assumption | refine Same.drew ?_ | refine Same.drewN ?_ _ | refine Same.alloc ?_ _ | refine Same.setCell ?_ (fun hq => by simp only [From] at hq; first | omega | (simp at hq; done) | (simp at hq; omega)) _)))))))
            go_wp2_with fail
            go_quiet ((go_at_call 89; exact quiet_add_left ((refSameBytes_ok _ K0 P y.1 x.name c3 a ((hs1.bz.bbelow hbel).bsame (by repeat' (first | exact Same.refl _ _ | assumption | refine Same.drew ?_ | refine Same.drewN ?_ _ | refine Same.alloc ?_ _ | refine Same.setCell ?_ (fun hq => by simp only [From] at hq; first | omega | (simp at hq; done) | (simp at hq; omega)) _))) ((Hp11.out.bbelow hbel).bsame (by repeat' (first | exact Same.refl _ _ | assumption | refine Same.drew ?_ | refine Same.drewN ?_ _ | refine Same.alloc ?_ _ | refine Same.setCell ?_ (fun hq => by simp only [From] at hq; first | omega | (simp at hq; done) | (simp at hq; omega)) _)))))))
            generalize hwz : World.drewN wr _ = wz
            have hbzz : Below w1.heap.size w1 wz := hwz ▸ below_drewN hbel _
            have Hownz := Lib.hid (show Own 2 TenR (From w.heap.size) wz w1.heap.size 122 _ (out) from hwz ▸ Hown.out.below tenR_stays (below_drewN (Below.refl _ _) _))
            clear hwz
            generalize hwq : World.drewN wz _ = wq
            have hbq : Below w1.heap.size w1 wq := hwq ▸ below_drewN hbzz _
            have Hownq := Lib.hid (show Own 2 TenR (From w.heap.size) wq w1.heap.size 122 _ (out) from hwq ▸ Hownz.out.below tenR_stays (below_drewN (Below.refl _ _) _))
            clear hwq
            have hbqz := hbq.size
            obtain ⟨g2, hc3, hc4⟩ := Hcells.out wq hbq
            go_wp2_with fail
            go_region_held3 (fun w' => w'.cell? ⟨ab, ao + j * 2, none⟩ = some (.slice K0 y.1.length c3) ∧ w'.cell? ⟨ab, ao + j * 2 + 1, none⟩ = some (.slice V0 y.2.length d3))
              (first | go_keep | exact (Hcells.out _ hk5).2 | exact (Hcells.out _ hk4).2 | exact (Hcells.out _ hk3).2)
              (first
                | (go_at_call 90; (with_reducible refine (joinedNil_ok _ K0 y.1 c3 ?ha hb1).mono ?_); (case ha => exact (hs1.bz.bbelow hbq).bsame (by repeat' (first | exact Same.refl _ _ | assumption | refine Same.drew ?_ | refine Same.drewN ?_ _ | refine Same.alloc ?_ _ | refine Same.setCell ?_ (fun hq => by simp only [From] at hq; first | omega | (simp at hq; done) | (simp at hq; omega)) _))); rintro e w3 ⟨A5, c5, rfl, gs1, hbw3⟩; have hk3 : Below w1.heap.size w1 w3 := hbq.drew.next hbw3 (by first | exact Nat.le_refl _ | omega | (simp; done) | (simp; omega)); have hzw3 : wq.heap.size ≤ w3.heap.size := (by simpa using hbw3.size))
                | (go_at_call 87; (with_reducible refine (pairsCopy_cap _ V0 y.2 d3 ?ha hb2).mono ?_); (case ha => exact (hs2.z pairR_stays).below pairR_stays hk3); rintro e w4 ⟨A6, d6, rfl, gc2, gs2, hbw4⟩; have hzw4 : w3.heap.size ≤ w4.heap.size := hbw4.size; have hk4 : Below w1.heap.size w1 w4 := hk3.next hbw4 (by first | exact Nat.le_refl _ | omega | (simp; done) | (simp; omega)); have hq4 : Below wq.heap.size wq w4 := ((Below.refl wq.heap.size wq).drew.next hbw3 (by first | exact Nat.le_refl _ | omega | (simp; done) | (simp; omega))).next hbw4 (by first | exact Nat.le_refl _ | omega | (simp; done) | (simp; omega)))
                | (refine step_snoc tenR_stays (S := From w.heap.size) _ rfl (.tmp 77) (.tmp 91) _ rfl w1.heap.size 122 i0 _ 2 48 Try.underlying43 hi0 hz0 hz1 hz2 rfl (by decide) _ (out) rfl ?hown _ _ [.slice A5 y.1.length c5, .slice A6 y.2.length d6] rfl rfl (new_src _ _ [.slice A5 y.1.length c5, .slice A6 y.2.length d6] _ (by simp)) (by simp [Value.oneCell']) ?hm ?hby ?hba y ?hd ?_; (case hown => (refine Own.below tenR_stays Hownq.out ?_; repeat' (first | exact Below.refl _ _ | assumption | refine Below.drew ?_ | refine below_drewN ?_ _ | refine Below.setCell ?_ (by first | (simp; done) | omega | (simp; omega)) _ | refine Below.alloc ?_ (by first | exact Nat.le_refl _ | omega | (simp; done) | (simp; omega)) _))); (case hm => ((try simp only [List.length_append, List.length_singleton]); simp only [maxLen]; omega)); (case hby => ((try simp only [List.length_append, List.length_singleton]); omega)); (case hba => (simp; omega)); (case hd => (refine ten_fresh (n := wq.heap.size) (gs1.bbelow hbw4) (gs2.lo pairR_stays hzw3) hb1 hb2 gc2 ?_ (by first | exact Nat.le_refl _ | omega | (simp; done) | (simp; omega)) (Hownq.out.apart _ (Nat.le_refl _)); repeat' (first | exact Same.refl _ _ | assumption | refine Same.drew ?_ | refine Same.drewN ?_ _ | refine Same.alloc ?_ _ | refine Same.setCell ?_ (fun hq => by simp only [From] at hq; first | omega | (simp at hq; done) | (simp at hq; omega)) _))); intro v1 w5 hown2 hbw2; have hk5 : Below w1.heap.size w1 w5 := (hk4.alloc (by first | exact Nat.le_refl _ | omega | (simp; done) | (simp; omega)) _).trans hbw2))
            go_wp2
            go_roundw
            case rel => exact ⟨j + 1, by omega, by go_num, by rw [Hst.out, Hq.out], by rw [Hst.out, Hq.out]; simpa using hown2, hk5⟩
            case measure => simp [intOf]; omega
          · rcases Bool.eq_false_or_eq_true (y.1 == x.name) with he | he
            · have Hq := Lib.hid (show putStep p (out, false) y = (out ++ [p], true) by simp [putStep, Hpx.out, ho, he])
              go_wp2_with fail
              go_quiet ((go_at_call 93; exact quiet_left ((before_ok _ K0 P y.1 x.name c3 a ((hs1.bz.bbelow hbel).bsame (by repeat' (first | exact Same.refl _ _ | assumption | refine Same.drew ?_ | refine Same.drewN ?_ _ | refine Same.alloc ?_ _ | refine Same.setCell ?_ (fun hq => by simp only [From] at hq; first | omega | (simp at hq; done) | (simp at hq; omega)) _))) ((Hp11.out.bbelow hbel).bsame (by repeat' (first | exact Same.refl _ _ | assumption | refine Same.drew ?_ | refine Same.drewN ?_ _ | refine Same.alloc ?_ _ | refine Same.setCell ?_ (fun hq => by simp only [From] at hq; first | omega | (simp at hq; done) | (simp at hq; omega)) _)))))))
              generalize hwp : World.drewN wr _ = wp
              have hbp : Below w1.heap.size w1 wp := hwp ▸ below_drewN hbel _
              have Hownp := Lib.hid (show Own 2 TenR (From w.heap.size) wp w1.heap.size 122 _ (out) from hwp ▸ Hown.out.below tenR_stays (below_drewN (Below.refl _ _) _))
              clear hwp
              have hbpz := hbp.size
              obtain ⟨g5, hc5, hc6⟩ := Hcells.out wp hbp
              go_wp2_with (first
                | (go_at_call 90; (with_reducible refine (joinedNil_ok _ P x.name a ?ha g1).mono ?_); (case ha => exact Hp11.out.bbelow hbp); rintro e w6 ⟨A7, c7, rfl, gs7, hb6⟩; have hb6z := hb6.size; have hk6 := hbp.next hb6 (by first | exact Nat.le_refl _ | omega | (simp; done) | (simp; omega)))
                | (at_builtin; refine wpl_snoc tenR_stays (S := From w.heap.size) _ rfl (.tmp 60) (.tmp 66) _ rfl w1.heap.size 122 i0 _ 2 48 Try.underlying43 hi0 hz0 hz1 hz2 rfl (by decide) _ (out) rfl ?hown _ _ [.slice A7 x.name.length c7, .slice A3 nx.1.length c9] rfl rfl (new_src _ _ [.slice A7 x.name.length c7, .slice A3 nx.1.length c9] _ (by simp)) (by simp [Value.oneCell']) ?hm ?hby ?hba p ?hd ?_; (case hown => (refine Own.below tenR_stays Hownp.out ?_; repeat' (first | exact Below.refl _ _ | assumption | refine Below.drew ?_ | refine below_drewN ?_ _ | refine Below.setCell ?_ (by first | (simp; done) | omega | (simp; omega)) _ | refine Below.alloc ?_ (by first | exact Nat.le_refl _ | omega | (simp; done) | (simp; omega)) _))); (case hm => ((try simp only [List.length_append, List.length_singleton]); simp only [maxLen]; omega)); (case hby => ((try simp only [List.length_append, List.length_singleton]); omega)); (case hba => (simp; omega)); (case hd => (rw [Hp.out]; refine ten_mixed (n := wp.heap.size) (t := (x.name, nx.1)) gs7 Hs3.out g1 (by show nx.1.length * 48 ≤ _; omega) hcap3 ?_ ?_ (by first | exact Nat.le_refl _ | omega | (simp; done) | (simp; omega)) (Hownp.out.apart _ (Nat.le_refl _)) Hownp.out.low; (repeat' (first | exact Same.refl _ _ | assumption | refine Same.drew ?_ | refine Same.drewN ?_ _ | refine Same.alloc ?_ _ | refine Same.setCell ?_ (fun hq => by simp only [From] at hq; first | omega | (simp at hq; done) | (simp at hq; omega)) _)); (exact hk6.alloc (by first | exact Nat.le_refl _ | omega | (simp; done) | (simp; omega)) _))); intro v7 w7 hown7 hbw7; have hb17 : Below w1.heap.size w1 w7 := (hk6.alloc (by first | exact Nat.le_refl _ | omega | (simp; done) | (simp; omega)) _).trans hbw7; have hz17 := hb17.size; obtain ⟨g7, hc7, hc8⟩ := Hcells.out w7 hb17))
              go_quiet ((go_at_call 89; exact quiet_left ((refSameBytes_ok _ K0 P y.1 x.name c3 a ((hs1.bz.bbelow hb17).bsame (by repeat' (first | exact Same.refl _ _ | assumption | refine Same.drew ?_ | refine Same.drewN ?_ _ | refine Same.alloc ?_ _ | refine Same.setCell ?_ (fun hq => by simp only [From] at hq; first | omega | (simp at hq; done) | (simp at hq; omega)) _))) ((Hp11.out.bbelow hb17).bsame (by repeat' (first | exact Same.refl _ _ | assumption | refine Same.drew ?_ | refine Same.drewN ?_ _ | refine Same.alloc ?_ _ | refine Same.setCell ?_ (fun hq => by simp only [From] at hq; first | omega | (simp at hq; done) | (simp at hq; omega)) _)))))))
              go_wp2
              go_roundw
              case rel => exact ⟨j + 1, by omega, by go_num, by rw [Hst.out, Hq.out], by rw [Hst.out, Hq.out]; exact hown7.below tenR_stays (below_drewN (Below.refl _ _) _), below_drewN hb17 _⟩
              case measure => simp [intOf]; omega
            · have Hq := Lib.hid (show putStep p (out, false) y = (out ++ [p] ++ [y], true) by simp [putStep, Hpx.out, ho, he])
              go_wp2_with fail
              go_quiet ((go_at_call 93; exact quiet_left ((before_ok _ K0 P y.1 x.name c3 a ((hs1.bz.bbelow hbel).bsame (by repeat' (first | exact Same.refl _ _ | assumption | refine Same.drew ?_ | refine Same.drewN ?_ _ | refine Same.alloc ?_ _ | refine Same.setCell ?_ (fun hq => by simp only [From] at hq; first | omega | (simp at hq; done) | (simp at hq; omega)) _))) ((Hp11.out.bbelow hbel).bsame (by repeat' (first | exact Same.refl _ _ | assumption | refine Same.drew ?_ | refine Same.drewN ?_ _ | refine Same.alloc ?_ _ | refine Same.setCell ?_ (fun hq => by simp only [From] at hq; first | omega | (simp at hq; done) | (simp at hq; omega)) _)))))))
              generalize hwp : World.drewN wr _ = wp
              have hbp : Below w1.heap.size w1 wp := hwp ▸ below_drewN hbel _
              have Hownp := Lib.hid (show Own 2 TenR (From w.heap.size) wp w1.heap.size 122 _ (out) from hwp ▸ Hown.out.below tenR_stays (below_drewN (Below.refl _ _) _))
              clear hwp
              have hbpz := hbp.size
              obtain ⟨g5, hc5, hc6⟩ := Hcells.out wp hbp
              go_wp2_with (first
                | (go_at_call 90; (with_reducible refine (joinedNil_ok _ P x.name a ?ha g1).mono ?_); (case ha => exact Hp11.out.bbelow hbp); rintro e w6 ⟨A7, c7, rfl, gs7, hb6⟩; have hb6z := hb6.size; have hk6 := hbp.next hb6 (by first | exact Nat.le_refl _ | omega | (simp; done) | (simp; omega)))
                | (at_builtin; refine wpl_snoc tenR_stays (S := From w.heap.size) _ rfl (.tmp 60) (.tmp 66) _ rfl w1.heap.size 122 i0 _ 2 48 Try.underlying43 hi0 hz0 hz1 hz2 rfl (by decide) _ (out) rfl ?hown _ _ [.slice A7 x.name.length c7, .slice A3 nx.1.length c9] rfl rfl (new_src _ _ [.slice A7 x.name.length c7, .slice A3 nx.1.length c9] _ (by simp)) (by simp [Value.oneCell']) ?hm ?hby ?hba p ?hd ?_; (case hown => (refine Own.below tenR_stays Hownp.out ?_; repeat' (first | exact Below.refl _ _ | assumption | refine Below.drew ?_ | refine below_drewN ?_ _ | refine Below.setCell ?_ (by first | (simp; done) | omega | (simp; omega)) _ | refine Below.alloc ?_ (by first | exact Nat.le_refl _ | omega | (simp; done) | (simp; omega)) _))); (case hm => ((try simp only [List.length_append, List.length_singleton]); simp only [maxLen]; omega)); (case hby => ((try simp only [List.length_append, List.length_singleton]); omega)); (case hba => (simp; omega)); (case hd => (rw [Hp.out]; refine ten_mixed (n := wp.heap.size) (t := (x.name, nx.1)) gs7 Hs3.out g1 (by show nx.1.length * 48 ≤ _; omega) hcap3 ?_ ?_ (by first | exact Nat.le_refl _ | omega | (simp; done) | (simp; omega)) (Hownp.out.apart _ (Nat.le_refl _)) Hownp.out.low; (repeat' (first | exact Same.refl _ _ | assumption | refine Same.drew ?_ | refine Same.drewN ?_ _ | refine Same.alloc ?_ _ | refine Same.setCell ?_ (fun hq => by simp only [From] at hq; first | omega | (simp at hq; done) | (simp at hq; omega)) _)); (exact hk6.alloc (by first | exact Nat.le_refl _ | omega | (simp; done) | (simp; omega)) _))); intro v7 w7 hown7 hbw7; have hb17 : Below w1.heap.size w1 w7 := (hk6.alloc (by first | exact Nat.le_refl _ | omega | (simp; done) | (simp; omega)) _).trans hbw7; have hz17 := hb17.size; obtain ⟨g7, hc7, hc8⟩ := Hcells.out w7 hb17))
              go_quiet ((go_at_call 89; exact quiet_left ((refSameBytes_ok _ K0 P y.1 x.name c3 a ((hs1.bz.bbelow hb17).bsame (by repeat' (first | exact Same.refl _ _ | assumption | refine Same.drew ?_ | refine Same.drewN ?_ _ | refine Same.alloc ?_ _ | refine Same.setCell ?_ (fun hq => by simp only [From] at hq; first | omega | (simp at hq; done) | (simp at hq; omega)) _))) ((Hp11.out.bbelow hb17).bsame (by repeat' (first | exact Same.refl _ _ | assumption | refine Same.drew ?_ | refine Same.drewN ?_ _ | refine Same.alloc ?_ _ | refine Same.setCell ?_ (fun hq => by simp only [From] at hq; first | omega | (simp at hq; done) | (simp at hq; omega)) _)))))))
              generalize hwq : World.drewN w7 _ = wq
              have hbq : Below w1.heap.size w1 wq := hwq ▸ below_drewN hb17 _
              have Hownq := Lib.hid (show Own 2 TenR (From w.heap.size) wq w1.heap.size 122 _ (out ++ [p]) from hwq ▸ hown7.below tenR_stays (below_drewN (Below.refl _ _) _))
              clear hwq
              have hbqz := hbq.size
              obtain ⟨g2, hc3, hc4⟩ := Hcells.out wq hbq
              go_wp2_with fail
              go_region_held3 (fun w' => w'.cell? ⟨ab, ao + j * 2, none⟩ = some (.slice K0 y.1.length c3) ∧ w'.cell? ⟨ab, ao + j * 2 + 1, none⟩ = some (.slice V0 y.2.length d3))
                (first | go_keep | exact (Hcells.out _ hk5).2 | exact (Hcells.out _ hk4).2 | exact (Hcells.out _ hk3).2)
                (first
                  | (go_at_call 90; (with_reducible refine (joinedNil_ok _ K0 y.1 c3 ?ha hb1).mono ?_); (case ha => exact (hs1.bz.bbelow hbq).bsame (by repeat' (first | exact Same.refl _ _ | assumption | refine Same.drew ?_ | refine Same.drewN ?_ _ | refine Same.alloc ?_ _ | refine Same.setCell ?_ (fun hq => by simp only [From] at hq; first | omega | (simp at hq; done) | (simp at hq; omega)) _))); rintro e w3 ⟨A5, c5, rfl, gs1, hbw3⟩; have hk3 : Below w1.heap.size w1 w3 := hbq.drew.next hbw3 (by first | exact Nat.le_refl _ | omega | (simp; done) | (simp; omega)); have hzw3 : wq.heap.size ≤ w3.heap.size := (by simpa using hbw3.size))
                  | (go_at_call 87; (with_reducible refine (pairsCopy_cap _ V0 y.2 d3 ?ha hb2).mono ?_); (case ha => exact (hs2.z pairR_stays).below pairR_stays hk3); rintro e w4 ⟨A6, d6, rfl, gc2, gs2, hbw4⟩; have hzw4 : w3.heap.size ≤ w4.heap.size := hbw4.size; have hk4 : Below w1.heap.size w1 w4 := hk3.next hbw4 (by first | exact Nat.le_refl _ | omega | (simp; done) | (simp; omega)); have hq4 : Below wq.heap.size wq w4 := ((Below.refl wq.heap.size wq).drew.next hbw3 (by first | exact Nat.le_refl _ | omega | (simp; done) | (simp; omega))).next hbw4 (by first | exact Nat.le_refl _ | omega | (simp; done) | (simp; omega)))
                  | (refine step_snoc tenR_stays (S := From w.heap.size) _ rfl (.tmp 77) (.tmp 91) _ rfl w1.heap.size 122 i0 _ 2 48 Try.underlying43 hi0 hz0 hz1 hz2 rfl (by decide) _ (out ++ [p]) rfl ?hown _ _ [.slice A5 y.1.length c5, .slice A6 y.2.length d6] rfl rfl (new_src _ _ [.slice A5 y.1.length c5, .slice A6 y.2.length d6] _ (by simp)) (by simp [Value.oneCell']) ?hm ?hby ?hba y ?hd ?_; (case hown => (refine Own.below tenR_stays Hownq.out ?_; repeat' (first | exact Below.refl _ _ | assumption | refine Below.drew ?_ | refine below_drewN ?_ _ | refine Below.setCell ?_ (by first | (simp; done) | omega | (simp; omega)) _ | refine Below.alloc ?_ (by first | exact Nat.le_refl _ | omega | (simp; done) | (simp; omega)) _))); (case hm => ((try simp only [List.length_append, List.length_singleton]); simp only [maxLen]; omega)); (case hby => ((try simp only [List.length_append, List.length_singleton]); omega)); (case hba => (simp; omega)); (case hd => (refine ten_fresh (n := wq.heap.size) (gs1.bbelow hbw4) (gs2.lo pairR_stays hzw3) hb1 hb2 gc2 ?_ (by first | exact Nat.le_refl _ | omega | (simp; done) | (simp; omega)) (Hownq.out.apart _ (Nat.le_refl _)); repeat' (first | exact Same.refl _ _ | assumption | refine Same.drew ?_ | refine Same.drewN ?_ _ | refine Same.alloc ?_ _ | refine Same.setCell ?_ (fun hq => by simp only [From] at hq; first | omega | (simp at hq; done) | (simp at hq; omega)) _))); intro v1 w5 hown2 hbw2; have hk5 : Below w1.heap.size w1 w5 := (hk4.alloc (by first | exact Nat.le_refl _ | omega | (simp; done) | (simp; omega)) _).trans hbw2))
              go_wp2
              go_roundw
              case rel => exact ⟨j + 1, by omega, by go_num, by rw [Hst.out, Hq.out], by rw [Hst.out, Hq.out]; simpa using hown2, hk5⟩
              case measure => simp [intOf]; omega
      · obtain rfl : j = l.length := by omega
        have Hput : ∀ s, putFrom p d0 (l.take l.length) = s → putEnd p d0 l = (if s.2 then s.1 else s.1 ++ [p]) := fun s hs => by rw [List.take_length] at hs; simp only [putEnd, hs]
        have hlen := putFrom_len p d0 l l.length (Nat.le_refl _)
        generalize putFrom p d0 (l.take l.length) = s at *
        have Hval := Lib.hid (Hput s rfl)
        obtain ⟨out, dn⟩ := s
        dsimp only at hlen
        clear Hput
        have hb0 : Below w.heap.size w wr := Hb01.out.next hbel (by omega)
        cases dn with
        | true =>
          obtain ⟨A5, c5, rfl, hcc5, hsl⟩ := hown.readg tenR_stays (by omega)
          by_cases hbig : 8 < out.length
          · have Hv := Lib.hid (show writtenS l x = ([], 11) by rw [Hws2.out, Hval.out]; simp [hbig])
            clear hown hsl
            go_wp2
            go_ret2
            rw [Hv.out]
            exact ⟨none, 0, rfl, Nat.le_refl _, SL.nil, hb0⟩
          · have Hv := Lib.hid (show writtenS l x = (out, 0) by rw [Hws2.out, Hval.out]; simp [hbig])
            have Hsl := Lib.hid hsl
            have Hcc := Lib.hid hcc5
            clear hown hsl hcc5
            go_wp2
            go_ret2
            rw [Hv.out]
            exact ⟨A5, c5, rfl, Hcc.out, Hsl.out, hb0⟩
        | false =>
          have Hown := Lib.hid hown
          obtain ⟨u9, hu9⟩ := Hbx.out
          obtain ⟨g0, _⟩ := box4 ((hbel.block _ hzb).trans hu9)
          clear hown hu9
          by_cases hbig : 8 < out.length + 1
          · have Hv := Lib.hid (show writtenS l x = ([], 11) by rw [Hws2.out, Hval.out]; simp [hbig])
            go_wp2_with (first
              | (go_at_call 90; (with_reducible refine (joinedNil_ok _ P x.name a ?ha g1).mono ?_); (case ha => exact Hp11.out.bbelow hbel); rintro e w6 ⟨A7, c7, rfl, gs7, hb6⟩; have hb6z := hb6.size; have hk6 := hbel.next hb6 (by first | exact Nat.le_refl _ | omega | (simp; done) | (simp; omega)))
              | (at_builtin; refine wpl_snoc tenR_stays (S := From w.heap.size) _ rfl (.tmp 95) (.tmp 101) _ rfl w1.heap.size 122 i0 _ 2 48 Try.underlying43 hi0 hz0 hz1 hz2 rfl (by decide) _ (out) rfl ?hown _ _ [.slice A7 x.name.length c7, .slice A3 nx.1.length c9] rfl rfl (new_src _ _ [.slice A7 x.name.length c7, .slice A3 nx.1.length c9] _ (by simp)) (by simp [Value.oneCell']) ?hm ?hby ?hba p ?hd ?_; (case hown => (refine Own.below tenR_stays Hown.out ?_; repeat' (first | exact Below.refl _ _ | assumption | refine Below.drew ?_ | refine below_drewN ?_ _ | refine Below.setCell ?_ (by first | (simp; done) | omega | (simp; omega)) _ | refine Below.alloc ?_ (by first | exact Nat.le_refl _ | omega | (simp; done) | (simp; omega)) _))); (case hm => ((try simp only [List.length_append, List.length_singleton]); simp only [maxLen]; omega)); (case hby => ((try simp only [List.length_append, List.length_singleton]); omega)); (case hba => (simp; omega)); (case hd => (rw [Hp.out]; refine ten_mixed (n := wr.heap.size) (t := (x.name, nx.1)) gs7 Hs3.out g1 (by show nx.1.length * 48 ≤ _; omega) hcap3 ?_ ?_ (by first | exact Nat.le_refl _ | omega | (simp; done) | (simp; omega)) (Hown.out.apart _ (Nat.le_refl _)) Hown.out.low; (repeat' (first | exact Same.refl _ _ | assumption | refine Same.drew ?_ | refine Same.drewN ?_ _ | refine Same.alloc ?_ _ | refine Same.setCell ?_ (fun hq => by simp only [From] at hq; first | omega | (simp at hq; done) | (simp at hq; omega)) _)); (exact hk6.alloc (by first | exact Nat.le_refl _ | omega | (simp; done) | (simp; omega)) _))); intro v1 w5 hown2 hbw2; obtain ⟨A5, c5, rfl, hcc5, hsl⟩ := hown2.readg tenR_stays (by omega); rw [List.length_append, List.length_singleton]; have Hsl := Lib.hid hsl; have Hcc := Lib.hid hcc5; clear hsl hown2 hcc5; have hb15 : Below w1.heap.size w1 w5 := (hk6.alloc (by first | exact Nat.le_refl _ | omega | (simp; done) | (simp; omega)) _).trans hbw2; have hb05 : Below w.heap.size w w5 := Hb01.out.next hb15 (by omega)))
            go_ret2
            rw [Hv.out]
            exact ⟨none, 0, rfl, Nat.le_refl _, SL.nil, hb05⟩
          · have Hv := Lib.hid (show writtenS l x = (out ++ [p], 0) by rw [Hws2.out, Hval.out]; simp [hbig])
            go_wp2_with (first
              | (go_at_call 90; (with_reducible refine (joinedNil_ok _ P x.name a ?ha g1).mono ?_); (case ha => exact Hp11.out.bbelow hbel); rintro e w6 ⟨A7, c7, rfl, gs7, hb6⟩; have hb6z := hb6.size; have hk6 := hbel.next hb6 (by first | exact Nat.le_refl _ | omega | (simp; done) | (simp; omega)))
              | (at_builtin; refine wpl_snoc tenR_stays (S := From w.heap.size) _ rfl (.tmp 95) (.tmp 101) _ rfl w1.heap.size 122 i0 _ 2 48 Try.underlying43 hi0 hz0 hz1 hz2 rfl (by decide) _ (out) rfl ?hown _ _ [.slice A7 x.name.length c7, .slice A3 nx.1.length c9] rfl rfl (new_src _ _ [.slice A7 x.name.length c7, .slice A3 nx.1.length c9] _ (by simp)) (by simp [Value.oneCell']) ?hm ?hby ?hba p ?hd ?_; (case hown => (refine Own.below tenR_stays Hown.out ?_; repeat' (first | exact Below.refl _ _ | assumption | refine Below.drew ?_ | refine below_drewN ?_ _ | refine Below.setCell ?_ (by first | (simp; done) | omega | (simp; omega)) _ | refine Below.alloc ?_ (by first | exact Nat.le_refl _ | omega | (simp; done) | (simp; omega)) _))); (case hm => ((try simp only [List.length_append, List.length_singleton]); simp only [maxLen]; omega)); (case hby => ((try simp only [List.length_append, List.length_singleton]); omega)); (case hba => (simp; omega)); (case hd => (rw [Hp.out]; refine ten_mixed (n := wr.heap.size) (t := (x.name, nx.1)) gs7 Hs3.out g1 (by show nx.1.length * 48 ≤ _; omega) hcap3 ?_ ?_ (by first | exact Nat.le_refl _ | omega | (simp; done) | (simp; omega)) (Hown.out.apart _ (Nat.le_refl _)) Hown.out.low; (repeat' (first | exact Same.refl _ _ | assumption | refine Same.drew ?_ | refine Same.drewN ?_ _ | refine Same.alloc ?_ _ | refine Same.setCell ?_ (fun hq => by simp only [From] at hq; first | omega | (simp at hq; done) | (simp at hq; omega)) _)); (exact hk6.alloc (by first | exact Nat.le_refl _ | omega | (simp; done) | (simp; omega)) _))); intro v1 w5 hown2 hbw2; obtain ⟨A5, c5, rfl, hcc5, hsl⟩ := hown2.readg tenR_stays (by omega); rw [List.length_append, List.length_singleton]; have Hsl := Lib.hid hsl; have Hcc := Lib.hid hcc5; clear hsl hown2 hcc5; have hb15 : Below w1.heap.size w1 w5 := (hk6.alloc (by first | exact Nat.le_refl _ | omega | (simp; done) | (simp; omega)) _).trans hbw2; have hb05 : Below w.heap.size w w5 := Hb01.out.next hb15 (by omega)))
            go_ret2
            rw [Hv.out]
            exact ⟨A5, c5, by simp, Hcc.out, Hsl.out, hb05⟩
end Go.Proofs.Ythhcdibimnifaaa
