/- Walks: ranges of pairs. -/
import Derived.Test.YthhcdibimnifaaaGetRef
import Derived.Test.YthhcdibimnifaaaCopy
namespace Go.Proofs.Ythhcdibimnifaaa
open Go.RowKit
set_option linter.unusedVariables false
set_option linter.unusedSimpArgs false

def inRange (f t : List UInt8) (p : Pr) : Bool := !lt p.1 f && !lt t p.1
/-- What Range and RangeOf answer. -/
def rangeFault (l : List Pr) (f t : List UInt8) : Int := if pairsFaultS l ≠ 0 then pairsFaultS l else if keyFault f ≠ 0 then keyFault f else keyFault t
def rangeS (l : List Pr) (f t : List UInt8) : List Pr × Int := if rangeFault l f t ≠ 0 then ([], rangeFault l f t) else (l.filter (inRange f t), 0)
/-- The call returns pairs and a number. -/
def RetPE (w : World) (r : List Pr × Int) (e : Ending) (w' : World) : Prop :=
  ∃ A c, e = .returned (.tuple #[.slice A r.1.length c, .int .i64 r.2]) ∧ r.1.length ≤ c ∧ Ps (From w.heap.size) w' A r.1 ∧ Below w.heap.size w w'
theorem filter_snoc {l : List Pr} {q : Pr → Bool} {k : Nat} (h : k < l.length) : (l.take (k + 1)).filter q = (l.take k).filter q ++ (if q l[k] then [l[k]] else []) := by
  rw [take_snoc l k h, List.filter_append]
  cases hq : q l[k] <;> simp [List.filter_cons, hq]

set_option maxRecDepth 100000 in
set_option maxHeartbeats 1000000 in
theorem rangeOf_ok (w : World) (A : Option Addr) (l : List Pr) (c : Nat) (K : Option Addr) (k : List UInt8) (c1 : Nat) (M : Option Addr) (m : List UInt8) (c2 : Nat) (ha : Ps All w A l) (hk : Bs All w K k) (hm : Bs All w M m) :
    Calls Try.prog 29 #[.slice A l.length c, .slice K k.length c1, .slice M m.length c2] w (RetPE w (rangeS l k m)) := by
  obtain ⟨i0, hi0, hz0, hz1, hz2⟩ := info_parts info_pair
  have Ha := Lib.hid ha
  have Hk := Lib.hid hk
  have Hm := Lib.hid hm
  clear ha hk hm
  by_cases h1 : pkFault l k = 0
  · have hpf := pk_fine h1
    have b1 : (pkFault l k == 0) = true := by simp [h1]
    by_cases h2 : keyFault m = 0
    · have b2 : (keyFault m != 0) = false := by simp [h2]
      have Hv := Lib.hid (show rangeS l k m = (l.filter (inRange k m), 0) by simp [rangeS, rangeFault, hpf.1, hpf.2, h2])
      obtain ⟨hl60, hlf, _⟩ := pairs_fine hpf.1
      have Hl := Lib.hid hl60
      clear h1 h2 hpf hlf
      go_enter Try.func29, Try.ntmps29
      go_wp2_with (first
        | (go_at_call 88; refine (pairsAndKey_ok _ A l c K k c1 Ha.out).mono ?_; rintro e w1 ⟨rfl, hb1⟩)
        | (go_at_call 92; refine (keyFault_ok _ M m c2).mono ?_; rintro e w2 ⟨rfl, rfl⟩))
      clear b1 b2
      have Hb1 := Lib.hid hb1
      clear hb1
      go_loopw [9, 10] (fun v i wr => ∃ j : Nat, j ≤ l.length ∧ i = .int .i64 j ∧ Own 2 PairR (From w.heap.size) wr w.heap.size 39 v ((l.take j).filter (inRange k m)) ∧ Below w.heap.size w wr) (fun _ i _ => l.length - (intOf i).toNat)
      case atStart => exact ⟨0, by omega, rfl, Own.nil _ _ _, Hb1.out⟩
      case round =>
        obtain ⟨j, hj, rfl, hown, hbel⟩ := hrel
        have Hbel := Lib.hid hbel
        have Hown := Lib.hid hown
        clear hown hbel
        by_cases hlt : j < l.length
        · obtain ⟨ab, ao, K0, c3, V0, d3, rfl, _, hal, hc1, hc2, hs1, hs2, hb1, hb2⟩ := pairs_at (Ha.out.below pairR_stays Hbel.out) hlt
          have Hkr := Lib.hid (Hk.out.bbelow Hbel.out)
          have Hmr := Lib.hid (Hm.out.bbelow Hbel.out)
          have Hsn := Lib.hid (filter_snoc (q := inRange k m) hlt)
          have hlen : ((l.take j).filter (inRange k m)).length ≤ 60 := by have h1 := List.length_filter_le (inRange k m) (l.take j); have h2 := Hl.out; rw [List.length_take] at h1; omega
          have Hlen := Lib.hid hlen
          clear hlen
          generalize l[j] = x at *
          rcases Bool.eq_false_or_eq_true (lt x.1 k) with h1 | h1
          · have Hq := Lib.hid (show inRange k m x = false by simp [inRange, h1])
            go_wp2_with (go_at_call 93; (with_reducible refine (before_ok _ K0 K x.1 k c3 c1 hs1.bz Hkr.out).mono ?_); rintro e w2 ⟨rfl, rfl⟩)
            go_roundw
            case rel => exact ⟨j + 1, by omega, by go_num, by rw [Hsn.out, Hq.out]; simpa using Hown.out, Hbel.out⟩
            case measure => simp [intOf]; omega
          · rcases Bool.eq_false_or_eq_true (lt m x.1) with h2 | h2
            · have Hq := Lib.hid (show inRange k m x = false by simp [inRange, h1, h2])
              go_wp2_with (first
                | (go_at_call 93; (with_reducible refine (before_ok _ K0 K x.1 k c3 c1 hs1.bz Hkr.out).mono ?_); rintro e w2 ⟨rfl, rfl⟩)
                | (go_at_call 93; (with_reducible refine (before_ok _ M K0 m x.1 c2 c3 Hmr.out hs1.bz).mono ?_); rintro e w2 ⟨rfl, rfl⟩))
              go_roundw
              case rel => exact ⟨j + 1, by omega, by go_num, by rw [Hsn.out, Hq.out]; simpa using Hown.out, Hbel.out⟩
              case measure => simp [intOf]; omega
            · have Hq := Lib.hid (show inRange k m x = true by simp [inRange, h1, h2])
              go_wp2_with (first
                | (go_at_call 93; (with_reducible refine (before_ok _ K0 K x.1 k c3 c1 hs1.bz Hkr.out).mono ?_); rintro e w2 ⟨rfl, rfl⟩)
                | (go_at_call 93; (with_reducible refine (before_ok _ M K0 m x.1 c2 c3 Hmr.out hs1.bz).mono ?_); rintro e w2 ⟨rfl, rfl⟩)
                | (go_at_call 94; refine (pairCopy_ok _ K0 V0 x c3 d3 hs1.bz hs2.bz hb1 hb2).mono ?_; rintro e w4 ⟨A1, c4, A2, d2, rfl, gs1, gs2, hbw1⟩)
                | (at_builtin; refine wpl_snoc pairR_stays (S := From w.heap.size) _ rfl _ _ _ rfl w.heap.size 39 i0 _ 2 48 Try.underlying22 hi0 hz0 hz1 hz2 rfl (by decide) _ ((l.take j).filter (inRange k m)) rfl ?hown _ _ [.slice A1 x.1.length c4, .slice A2 x.2.length d2] rfl rfl (new_src _ _ [.slice A1 x.1.length c4, .slice A2 x.2.length d2] _ (by simp)) (by simp [Value.oneCell']) ?hm ?hby ?hba x ?hd ?_; (case hown => exact (Hown.out.below pairR_stays hbw1).same pairR_stays (((Same.refl _ _).alloc _).alloc _)); (case hm => have := Hlen.out; simp only [maxLen]; omega); (case hby => have := Hlen.out; omega); (case hba => have hz1 := Hbel.out.size; have hz2 := hbw1.size; simp; omega); (case hd => exact ⟨A1, c4, A2, d2, rfl, (gs1.bsame (((Same.refl _ _).alloc _).alloc _)).bless fun b _ hs => ⟨Nat.le_trans Hbel.out.size hs, Hown.out.apart _ (Nat.le_refl _) b hs⟩, (gs2.bsame (((Same.refl _ _).alloc _).alloc _)).bless fun b _ hs => ⟨Nat.le_trans Hbel.out.size hs, Hown.out.apart _ (Nat.le_refl _) b hs⟩, hb1, hb2⟩); intro v1 w5 hown2 hbw2))
              go_roundw
              case rel => exact ⟨j + 1, by omega, by go_num, by rw [Hsn.out, Hq.out]; exact hown2, (((Hbel.out.next hbw1 Hbel.out.size).alloc (by have hz1 := Hbel.out.size; have hz2 := hbw1.size; omega) _).alloc (by have hz1 := Hbel.out.size; have hz2 := hbw1.size; simp; omega) _).trans hbw2⟩
              case measure => simp [intOf]; omega
        · obtain rfl : j = l.length := by omega
          go_wp2
          go_ret2
          have h := Hown.out
          rw [List.take_length] at h
          obtain ⟨A', c', rfl, hcc, hsl⟩ := h.readc pairR_stays
          rw [Hv.out]
          exact ⟨A', c', rfl, hcc, hsl, Hbel.out⟩
    · have b2 : (keyFault m != 0) = true := by simpa using h2
      have Hv := Lib.hid (show rangeS l k m = ([], keyFault m) by simp [rangeS, rangeFault, hpf.1, hpf.2, h2])
      clear h1 h2 hpf
      go_enter Try.func29, Try.ntmps29
      go_wp2_with (first
        | (go_at_call 88; refine (pairsAndKey_ok _ A l c K k c1 Ha.out).mono ?_; rintro e w1 ⟨rfl, hb1⟩)
        | (go_at_call 92; refine (keyFault_ok _ M m c2).mono ?_; rintro e w2 ⟨rfl, rfl⟩))
      go_ret2
      rw [Hv.out]
      exact ⟨none, 0, rfl, Nat.le_refl _, SL.nil, hb1⟩
  · have b1 : (pkFault l k == 0) = false := by simp [h1]
    have b2 : (pkFault l k != 0) = true := by simpa using h1
    have Hv := Lib.hid (show rangeS l k m = ([], pkFault l k) by
      unfold pkFault at h1 ⊢
      by_cases h3 : pairsFaultS l = 0
      · rw [if_neg (by simpa using h3)] at h1 ⊢
        simp [rangeS, rangeFault, h3, h1]
      · rw [if_pos h3] at h1 ⊢
        simp [rangeS, rangeFault, h3])
    clear h1
    go_enter Try.func29, Try.ntmps29
    go_wp2_with (go_at_call 88; refine (pairsAndKey_ok _ A l c K k c1 Ha.out).mono ?_; rintro e w1 ⟨rfl, hb1⟩)
    go_ret2
    rw [Hv.out]
    exact ⟨none, 0, rfl, Nat.le_refl _, SL.nil, hb1⟩

theorem filter_mid {α : Type} (q : α → Bool) : ∀ (l : List α) (a b : Nat), (∀ j (h : j < l.length), q l[j] = decide (a ≤ j ∧ j < b)) → l.filter q = (l.drop a).take (b - a)
  | [], a, b, _ => by simp
  | x :: l, a, b, h => by
    have h0 : q x = decide (a ≤ 0 ∧ 0 < b) := h 0 (by simp)
    have ih := filter_mid q l (a - 1) (b - 1) (fun j hj => by
      have := h (j + 1) (by simpa using hj)
      simp only [List.getElem_cons_succ] at this
      rw [this]
      exact decide_eq_decide.2 (by omega))
    rcases a with _ | a
    · rcases b with _ | b
      · have hq : q x = false := by rw [h0]; simp
        simp only [List.filter_cons, hq]
        simpa using ih
      · have hq : q x = true := by rw [h0]; simp
        simp only [List.filter_cons, hq, if_true]
        simpa using ih
    · have hq : q x = false := by rw [h0]; simp
      simp only [List.filter_cons, hq]
      rcases b with _ | b
      · simpa using ih
      · simpa using ih
theorem range_mid {l : List Pr} {f t : List UInt8} {i k k' : Nat} (hr : Rise (keys l)) (hi : At (keys l) f i) (hk : At (keys l) t k) (h' : k' = if (keys l)[k]? = some t then k + 1 else k) :
    l.filter (inRange f t) = (l.drop i).take (max i k' - i) := by
  have key : ∀ j (h : j < l.length), inRange f t l[j] = decide (i ≤ j ∧ j < k') := by
    intro j hj
    have hjk : j < (keys l).length := by simpa [keys] using hj
    have e : l[j].1 = (keys l)[j] := (keys_at l j hjk).symm
    unfold inRange
    rw [e]
    have h1 : (!lt (keys l)[j] f) = decide (i ≤ j) := by
      by_cases h : i ≤ j
      · rw [hi.high j h hjk]; simp [h]
      · rw [hi.low j (by omega) hjk]; simp [h]
    have h2 : (!lt t (keys l)[j]) = decide (j < k') := by
      by_cases h : j < k
      · rw [lt_asymm _ _ (hk.low j h hjk)]
        have : j < k' := by rw [h']; split <;> omega
        simp [this]
      · have h3 := hk.high j (by omega) hjk
        by_cases h4 : (keys l)[j] = t
        · have hkj : j = k := by
            rcases (by omega : j = k ∨ k < j) with h5 | h5
            · exact h5
            · have h6 := hr k j h5 hjk
              rw [h4, hk.high k (Nat.le_refl _) (by omega)] at h6
              cases h6
          subst hkj
          have : j < k' := by rw [h', if_pos (by rw [List.getElem?_eq_getElem hjk, h4])]; omega
          rw [h4, lt_irrefl]
          simp [this]
        · have h5 : lt t (keys l)[j] = true := by
            rcases Bool.eq_false_or_eq_true (lt t (keys l)[j]) with h6 | h6
            · exact h6
            · exact absurd (lt_tri _ _ h3 h6) h4
          have : ¬ j < k' := by
            rw [h']
            split
            · rename_i hs
              intro hlt
              have : j = k := by omega
              subst this
              rw [List.getElem?_eq_getElem hjk] at hs
              exact h4 (Option.some.inj hs)
            · exact h
          rw [h5]
          simp [this]
    rw [h1, h2, ← Bool.decide_and]
  rw [filter_mid _ l i k' key]
  congr 1
  omega
/-- A piece of a slice. -/
theorem SL.cut {α : Type} {size : Nat} {R : (Nat → Prop) → World → List Value → α → Prop} {S : Nat → Prop} {w : World} {b off : Nat} {l : List α} (h : SL size R S w (some ⟨b, off, none⟩) l) (i m : Nat) :
    SL size R S w (some ⟨b, off + i * size, none⟩) ((l.drop i).take m) := by
  intro hl
  have hln : 0 < l.length := by rw [List.length_take, List.length_drop] at hl; omega
  obtain ⟨b', off', e, h0, hlt, hi⟩ := h hln
  cases e
  refine ⟨b, off + i * size, rfl, h0, hlt, fun j hj => ?_⟩
  have hj' : i + j < l.length := by rw [List.length_take, List.length_drop] at hj; omega
  obtain ⟨cs, h1, h2, h3⟩ := hi (i + j) hj'
  refine ⟨cs, h1, fun n hn => ?_, ?_⟩
  · rw [← h2 n hn]
    congr 2
    rw [Nat.add_mul]
    omega
  · rw [List.getElem_take, List.getElem_drop]
    exact h3

theorem sub_ok {α : Type} {size : Nat} {R : (Nat → Prop) → World → List Value → α → Prop} {S : Nat → Prop} {w : World} {A : Option Addr} {l : List α} (h : SL size R S w A l) (i n : Nat) : SL size R S w (Option.map (fun x => x.add (i * size)) A) ((l.drop i).take n) := by
  intro hl
  obtain ⟨b, off, e, _⟩ := h (by rw [List.length_take, List.length_drop] at hl; omega)
  subst e
  have := h.cut i n hl
  rw [Option.map_some, add_at]
  exact this
theorem treeAll_at (w : World) (A : Option Addr) (n : Nat) (l : List Pr) (hl : n = l.length) (c : Nat) (ha : Ps All w A l) (hn : l.length * 48 ≤ 140737488355328) :
    Calls Try.prog 91 #[.slice A n c] w (RetSLc 2 PairR w l) := by
  subst hl
  exact treeAll_cap w A l c ha hn

set_option maxRecDepth 100000 in
set_option maxHeartbeats 1000000 in
theorem treeRange_ok (w : World) (A : Option Addr) (l : List Pr) (c : Nat) (K : Option Addr) (k : List UInt8) (c1 : Nat) (M : Option Addr) (m : List UInt8) (c2 : Nat) (ha : Ps All w A l) (hk : Bs All w K k) (hm : Bs All w M m) (hc : l.length ≤ c) :
    Calls Try.prog 28 #[.slice A l.length c, .slice K k.length c1, .slice M m.length c2] w (RetPE w (rangeS l k m)) := by
  have Ha := Lib.hid ha
  have Hk := Lib.hid hk
  have Hm := Lib.hid hm
  clear ha hk hm
  have i0 : ∀ w, (Instr.index 116 (.agg #[.slice K k.length c1, .slice M m.length c2]) (.int .i64 0)).run Try.prog w = .ok (.slice K k.length c1) w := fun _ => by kernel_rfl
  have i1 : ∀ w, (Instr.index 116 (.agg #[.slice K k.length c1, .slice M m.length c2]) (.int .i64 1)).run Try.prog w = .ok (.slice M m.length c2) w := fun _ => by kernel_rfl
  by_cases h1 : pairsFaultS l = 0
  · have b1 : (pairsFaultS l != 0) = false := by simp [h1]
    obtain ⟨hl60, _, hrise⟩ := pairs_fine h1
    have Hr := Lib.hid (show Rise (keys l) from hrise)
    have Hl := Lib.hid hl60
    have H1 := Lib.hid h1
    clear h1 hrise hl60
    by_cases h2 : keyFault k = 0
    · have b2 : (keyFault k != 0) = false := by simp [h2]
      by_cases h3 : keyFault m = 0
      · have b3 : (keyFault m != 0) = false := by simp [h3]
        have Hv := Lib.hid (show rangeS l k m = (l.filter (inRange k m), 0) by simp [rangeS, rangeFault, H1.out, h2, h3])
        clear h2 h3
        go_enter Try.func28, Try.ntmps28
        go_wp2_with (go_at_call 83; refine (treeCheck_ok _ A l c Ha.out).mono ?_; rintro e w1 ⟨rfl, hb1⟩)
        refine wp_loop_rounds 3 ?_
        rw [rounds_succ]
        go_wp2_with (go_at_call 84; (first | (with_reducible refine (pathCheck_ok _ K k c1).mono ?_) | (with_reducible refine (pathCheck_ok _ M m c2).mono ?_)); rintro e w' ⟨rfl, rfl⟩)
        rw [rounds_succ]
        go_wp2_with (go_at_call 84; (first | (with_reducible refine (pathCheck_ok _ K k c1).mono ?_) | (with_reducible refine (pathCheck_ok _ M m c2).mono ?_)); rintro e w' ⟨rfl, rfl⟩)
        rw [rounds_succ]
        go_wp2_with (go_at_call 84; (first | (with_reducible refine (pathCheck_ok _ K k c1).mono ?_) | (with_reducible refine (pathCheck_ok _ M m c2).mono ?_)); rintro e w' ⟨rfl, rfl⟩)
        clear b1 b2 b3 i0 i1
        refine (treeFind_ok _ A l c K k c1 (Ha.out.below pairR_stays hb1) (Hk.out.bbelow hb1) Hl.out Hr.out).mono ?_
        rintro e w3 ⟨i, rfl, hati, hb3⟩
        have hil := hati.le
        rw [keys, List.length_map] at hil
        have Hati := Lib.hid hati
        have Hb3 := Lib.hid (hb1.next hb3 hb1.size)
        clear hati hb1 hb3
        have hl60 := Hl.out
        go_wp2_with fail
        refine (treeFind_ok _ A l c M m c2 (Ha.out.below pairR_stays Hb3.out) (Hm.out.bbelow Hb3.out) Hl.out Hr.out).mono ?_
        rintro e w4 ⟨j, rfl, hatj, hb4⟩
        have hjl := hatj.le
        rw [keys, List.length_map] at hjl
        have Hatj := Lib.hid hatj
        have Hb4 := Lib.hid (Hb3.out.next hb4 Hb3.out.size)
        clear hatj hb4 Hb3
        by_cases hf : (keys l)[j]? = some m
        · rw [decide_eq_true hf]
          have hjl' : j + 1 ≤ l.length := by
            have := (List.getElem?_eq_some_iff.1 hf).1
            rw [keys, List.length_map] at this
            exact this
          have Hmid := Lib.hid (range_mid (k' := j + 1) Hr.out Hati.out Hatj.out (by rw [if_pos hf]))
          clear hf Hati Hatj
          go_wp2_with fail
          all_goals
            obtain ⟨sub, hsub⟩ : ∃ sub, sub = (l.drop i).take (max i (j + 1) - i) := ⟨_, rfl⟩
            have hsl : sub.length = min (max i (j + 1) - i) (l.length - i) := by rw [hsub, List.length_take, List.length_drop]
            have Hsub := Lib.hid hsub
            clear hsub
            refine (treeAll_at _ _ _ sub ?hn _ ?hs ?hb).mono ?_
            case hn => omega
            case hb => omega
            case hs => rw [Hsub.out]; first | exact sub_ok (Ha.out.below pairR_stays Hb4.out) i _ | (rw [List.drop_eq_nil_of_le (by omega), List.take_nil]; exact SL.nil)
            clear hsl
            rintro e w5 ⟨A5, c5, rfl, hcc5, hs5, hb5⟩
            go_wp2
            go_ret2
            rw [Hv.out, Hmid.out, ← Hsub.out]
            exact ⟨A5, c5, rfl, hcc5, hs5.lo pairR_stays Hb4.out.size, Hb4.out.next hb5 Hb4.out.size⟩
        · rw [decide_eq_false hf]
          have Hmid := Lib.hid (range_mid (k' := j) Hr.out Hati.out Hatj.out (by rw [if_neg hf]))
          clear hf Hati Hatj
          go_wp2_with fail
          all_goals
            obtain ⟨sub, hsub⟩ : ∃ sub, sub = (l.drop i).take (max i (j) - i) := ⟨_, rfl⟩
            have hsl : sub.length = min (max i (j) - i) (l.length - i) := by rw [hsub, List.length_take, List.length_drop]
            have Hsub := Lib.hid hsub
            clear hsub
            refine (treeAll_at _ _ _ sub ?hn _ ?hs ?hb).mono ?_
            case hn => omega
            case hb => omega
            case hs => rw [Hsub.out]; first | exact sub_ok (Ha.out.below pairR_stays Hb4.out) i _ | (rw [List.drop_eq_nil_of_le (by omega), List.take_nil]; exact SL.nil)
            clear hsl
            rintro e w5 ⟨A5, c5, rfl, hcc5, hs5, hb5⟩
            go_wp2
            go_ret2
            rw [Hv.out, Hmid.out, ← Hsub.out]
            exact ⟨A5, c5, rfl, hcc5, hs5.lo pairR_stays Hb4.out.size, Hb4.out.next hb5 Hb4.out.size⟩
      · have b3 : (keyFault m != 0) = true := by simpa using h3
        have Hv := Lib.hid (show rangeS l k m = ([], keyFault m) by simp [rangeS, rangeFault, H1.out, h2, h3])
        clear h2 h3
        go_enter Try.func28, Try.ntmps28
        go_wp2_with (go_at_call 83; refine (treeCheck_ok _ A l c Ha.out).mono ?_; rintro e w1 ⟨rfl, hb1⟩)
        refine wp_loop_rounds 2 ?_
        rw [rounds_succ]
        go_wp2_with (go_at_call 84; (first | (with_reducible refine (pathCheck_ok _ K k c1).mono ?_) | (with_reducible refine (pathCheck_ok _ M m c2).mono ?_)); rintro e w' ⟨rfl, rfl⟩)
        rw [rounds_succ]
        go_wp2_with (go_at_call 84; (first | (with_reducible refine (pathCheck_ok _ K k c1).mono ?_) | (with_reducible refine (pathCheck_ok _ M m c2).mono ?_)); rintro e w' ⟨rfl, rfl⟩)
        go_ret2
        rw [Hv.out]
        exact ⟨none, 0, rfl, Nat.le_refl _, SL.nil, hb1⟩
    · have b2 : (keyFault k != 0) = true := by simpa using h2
      have Hv := Lib.hid (show rangeS l k m = ([], keyFault k) by simp [rangeS, rangeFault, H1.out, h2])
      clear h2
      go_enter Try.func28, Try.ntmps28
      go_wp2_with (go_at_call 83; refine (treeCheck_ok _ A l c Ha.out).mono ?_; rintro e w1 ⟨rfl, hb1⟩)
      refine wp_loop_rounds 1 ?_
      rw [rounds_succ]
      go_wp2_with (go_at_call 84; (first | (with_reducible refine (pathCheck_ok _ K k c1).mono ?_) | (with_reducible refine (pathCheck_ok _ M m c2).mono ?_)); rintro e w' ⟨rfl, rfl⟩)
      go_ret2
      rw [Hv.out]
      exact ⟨none, 0, rfl, Nat.le_refl _, SL.nil, hb1⟩
  · have b1 : (pairsFaultS l != 0) = true := by simpa using h1
    have Hv := Lib.hid (show rangeS l k m = ([], pairsFaultS l) by simp [rangeS, rangeFault, h1])
    clear h1
    go_enter Try.func28, Try.ntmps28
    go_wp2_with (go_at_call 83; refine (treeCheck_ok _ A l c Ha.out).mono ?_; rintro e w1 ⟨rfl, hb1⟩)
    go_ret2
    rw [Hv.out]
    exact ⟨none, 0, rfl, Nat.le_refl _, SL.nil, hb1⟩
end Go.Proofs.Ythhcdibimnifaaa
