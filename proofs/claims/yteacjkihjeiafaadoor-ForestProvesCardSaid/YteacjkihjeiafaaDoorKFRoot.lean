/- FRoot: Walks: the roots of tenants, the root of a forest; the law ForestRoots. The conditions of each are in its words. -/
import Derived.Test.YteacjkihjeiafaaDoorKRootR
import Derived.Test.YteacjkihjeiafaaDoorKForestW
import Derived.Test.YteacjkihjeiafaaDoorKTreeW
import Derived.Test.YteacjkihjeiafaaDoorKForest
namespace Go.Proofs.YteacjkihjeiafaaDoor
open Go.RowKit
set_option linter.unusedVariables false
set_option linter.unusedSimpArgs false

/-- A tenant's name and root, as a pair. -/
def rootP (t : Tn) : Pr := (t.1, rootS t.2)
theorem name_key {n : List UInt8} (h : nameFault n = 0) : keyFault n = 0 ∧ n.length ≤ 8 := by
  unfold nameFault at h
  unfold keyFault
  split at h
  · exact ⟨by rw [if_pos (by omega)], by omega⟩
  · omega
theorem roots_fine {l : List Tn} (h : forestFaultS l = 0) : pairsFaultS (l.map rootP) = 0 := by
  obtain ⟨h1, h2, h3⟩ := (ten_fault_iff l).1 h
  refine (pairs_fault_iff _).2 ⟨by rw [List.length_map]; omega, fun p hp => ?_, ?_⟩
  · obtain ⟨t, ht, rfl⟩ := List.mem_map.1 hp
    unfold pairFaultS rootP
    rw [if_neg (by have := rootS_len t.2; simp only []; omega)]
    exact (name_key (tenOne_fine.1 (h2 t ht)).1).1
  · have e : keys (l.map rootP) = keys l := by simp [keys, rootP, Function.comp_def]
    rw [e]
    exact h3
/-- What forest.Root and ForestRoot answer. -/
def forestRootS (l : List Tn) : List UInt8 × Int := if forestFaultS l = 0 then (rootS (l.map rootP), 0) else ([], forestFaultS l)
theorem rootE_ok {l : List Pr} (h : pairsFaultS l = 0) : rootE l = (rootS l, 0) := by rw [rootE, if_pos h]
/-- What all tenants of a forest that may be are like. -/
def AllFine (l : List Tn) : Prop := ∀ t ∈ l, pairsFaultS t.2 = 0 ∧ t.1.length ≤ big
theorem allFine_of {l : List Tn} (h : forestFaultS l = 0) : AllFine l := fun t ht => by
  obtain ⟨_, h2, _⟩ := (ten_fault_iff l).1 h
  have := tenOne_fine.1 (h2 t ht)
  exact ⟨this.2.2, by have := (name_key this.1).2; unfold big; omega⟩
set_option maxRecDepth 100000 in
set_option maxHeartbeats 2000000 in
theorem forestRoots_ok (w : World) (hT : TabsAt w) (A : Option Addr) (l : List Tn) (c : Nat) (ha : Ts All w A l) (h8 : l.length ≤ 8) (hf : AllFine l) :
    Calls Tryd.prog 41 #[.slice A l.length c] w (RetSLc 2 PairR w (l.map rootP)) := by
  obtain ⟨i0, hi0, hy0, hy1, hy2⟩ := info_parts info_pair
  have HT := Lib.hid hT
  have Ha := Lib.hid ha
  have Hf := Lib.hid hf
  clear ha hf hT
  go_enter Tryd.func41, Tryd.ntmps41
  go_wp2
  go_loopw [3, 10] (fun v i wr => ∃ k : Nat, k ≤ l.length ∧ i = .int .i64 k ∧ Own 2 PairR (From w.heap.size) wr w.heap.size 25 v ((l.take k).map rootP) ∧ Below w.heap.size w wr) (fun _ i _ => l.length - (intOf i).toNat)
  case atStart => exact ⟨0, by omega, rfl, Own.nil _ _ _, Below.refl _ _⟩
  case round =>
    obtain ⟨k, hk, rfl, hown, hbel⟩ := hrel
    have Hbel := Lib.hid hbel
    have Hown := Lib.hid hown
    have hbz := hbel.size
    clear hown hbel
    by_cases hlt : k < l.length
    · have hki : (k : Int) < (l.length : Int) := by omega
      have mk : IntKind.i64.wrap ((k : Int) + 1) = (k : Int) + 1 := IntWalk.i64_in _ (by omega)
      obtain ⟨ab, ao, K, c1, V, d1, rfl, _, hal, hc1, hc2, hs1, hs2, hbx, hb2, hcd⟩ := tens_at (Ha.out.below tenR_stays Hbel.out) hlt
      have Hs1 := Lib.hid hs1
      have Hs2 := Lib.hid hs2
      have hfx := (Hf.out _ (List.getElem_mem hlt)).1
      have Hrt := Lib.hid (rootE_ok hfx)
      have Htr := Lib.hid (tree_of hfx)
      have H60 := Lib.hid (pairs_fine hfx).1
      have Hsn := Lib.hid (show (l.take (k + 1)).map rootP = (l.take k).map rootP ++ [rootP l[k]] by rw [take_snoc l k hlt, List.map_append]; rfl)
      have HM := Lib.hid (show ((l.take k).map rootP).length ≤ 8 by rw [List.length_map, List.length_take]; omega)
      generalize (l.take k).map rootP = M at *
      generalize l[k] = x at *
      clear hs1 hs2 hfx
      have Hbox := Lib.hid (show ∀ W, Below (wr.heap.size + 1) (wr.alloc (.cells #[.slice K x.1.length c1, .slice V x.2.length d1] 80)) W → W.cell? ⟨wr.heap.size, 0, none⟩ = some (.slice K x.1.length c1) ∧ W.cell? ⟨wr.heap.size, 1, none⟩ = some (.slice V x.2.length d1) ∧ Below w.heap.size w W ∧ wr.heap.size < W.heap.size from fun W hW => by
        obtain ⟨q0, q1, _⟩ := box2 ((hW.block wr.heap.size (by omega)).trans (box_new wr _ _))
        exact ⟨q0, q1, (Hbel.out.alloc hbz _).trans (hW.mono (by omega)), by have := hW.size; simp at this; omega⟩)
      have Hkk : ∀ W, Below (wr.heap.size + 1) (wr.alloc (.cells #[.slice K x.1.length c1, .slice V x.2.length d1] 80)) W → Below wr.heap.size wr W := fun W hW => ((Below.refl _ _).alloc (Nat.le_refl _) _).trans (hW.mono (by omega))
      go_wp2_with (first
        | (go_at_call 32; (with_reducible refine (treeRootE_ok _ ?hT V x.2 d1 ?ha hcd).mono ?_); (case hT => (refine HT.out.below ?_; refine Hbel.out.alloc hbz _)); (case ha => (refine (Hs2.out.z pairR_stays).below pairR_stays ?_; repeat' (first | exact Below.refl _ _ | assumption | refine Below.drew ?_ | refine below_drewN ?_ _ | refine Below.setCell ?_ (by first | (simp; done) | omega | (simp; omega)) _ | refine Below.alloc ?_ (by first | exact Nat.le_refl _ | omega | (simp; done) | (simp; omega)) _))); rw [Hrt.out]; rintro e w1 ⟨B1, b1, rfl, gs1, hbw1'⟩; have hbw1 := hbw1'.mono (show wr.heap.size + 1 ≤ _ by simp); obtain ⟨q0, q1, hw1, hz1⟩ := Hbox.out w1 hbw1)
        | (go_at_call 68; (with_reducible refine (clone_ok _ K x.1 c1 ?ha hbx).mono ?_); (case ha => exact (Hs1.out.bz.bbelow (show Below wr.heap.size wr w1 from ((Below.refl _ _).alloc (Nat.le_refl _) _).trans (hbw1.mono (by omega))))); rintro e w2 ⟨A2, a2, rfl, gs2, hbw2⟩; have hw2 := hw1.next hbw2 hw1.size; have hz2 := hbw2.size)
        | (at_builtin; refine wpl_snoc pairR_stays (S := From w.heap.size) _ rfl _ _ _ rfl w.heap.size 25 i0 _ 2 48 Tryd.underlying75 hi0 hy0 hy1 hy2 rfl (by decide) _ M rfl ?hown _ _ [.slice A2 x.1.length a2, .slice B1 (rootS x.2).length b1] rfl rfl (new_src _ _ [.slice A2 x.1.length a2, .slice B1 (rootS x.2).length b1] _ (by simp)) (by simp [Value.oneCell']) ?hm ?hby ?hba (x.1, rootS x.2) ?hd ?_; (case hown => exact ((Hown.out.below pairR_stays (Hkk w1 hbw1)).below pairR_stays hbw2).same pairR_stays ((Same.refl _ _).alloc _)); (case hm => (have := HM.out; simp only [maxLen]; omega)); (case hby => (have := HM.out; omega)); (case hba => (simp; omega)); (case hd => (refine pair_fresh (p := (x.1, rootS x.2)) (n := wr.heap.size) (gs2.blo (by first | exact Nat.le_refl _ | omega | (simp; done) | (simp; omega))) ((gs1.blo (by first | exact Nat.le_refl _ | omega | (simp; done) | (simp; omega))).bbelow hbw2) hbx (by rw [rootS_len]; simp [big]) ((Same.refl _ _).alloc _) hbz (Hown.out.apart _ (Nat.le_refl _)))); intro v1 w3 hown3 hbw3; have hw3 : Below w.heap.size w w3 := (hw2.alloc (by omega) _).trans hbw3))
      go_roundw
      case rel => exact ⟨k + 1, by omega, by go_num, by rw [Hsn.out]; exact hown3, hw3⟩
      case measure => simp [intOf]; omega
    · obtain rfl : k = l.length := by omega
      have hki : ¬ (l.length : Int) < (l.length : Int) := by omega
      have h := Hown.out
      rw [List.take_length] at h
      obtain ⟨A1, a1, rfl, hcap, hs⟩ := h.readc pairR_stays
      have Hcap := Lib.hid hcap
      have Hs := Lib.hid hs
      clear h hcap hs Hown hk hlt
      go_wp2
      go_ret
      exact ⟨A1, a1, by rw [List.length_map]; rfl, Hcap.out, Hs.out, Hbel.out⟩
set_option maxRecDepth 100000 in
set_option maxHeartbeats 2000000 in
theorem rootsOf_ok (w : World) (A : Option Addr) (l : List Tn) (c : Nat) (ha : Ts All w A l) (h8 : l.length ≤ 8) (hf : AllFine l) :
    Calls Tryd.prog 45 #[.slice A l.length c] w (RetSLc 2 PairR w (l.map rootP)) := by
  obtain ⟨i0, hi0, hy0, hy1, hy2⟩ := info_parts info_pair
  have Ha := Lib.hid ha
  have Hf := Lib.hid hf
  clear ha hf
  go_enter Tryd.func45, Tryd.ntmps45
  go_wp2
  go_loopw [3, 4] (fun v i wr => ∃ k : Nat, k ≤ l.length ∧ i = .int .i64 k ∧ Own 2 PairR (From w.heap.size) wr w.heap.size 25 v ((l.take k).map rootP) ∧ Below w.heap.size w wr) (fun _ i _ => l.length - (intOf i).toNat)
  case atStart => exact ⟨0, by omega, rfl, Own.nil _ _ _, Below.refl _ _⟩
  case round =>
    obtain ⟨k, hk, rfl, hown, hbel⟩ := hrel
    have Hbel := Lib.hid hbel
    have Hown := Lib.hid hown
    have hbz := hbel.size
    clear hown hbel
    by_cases hlt : k < l.length
    · have hki : (k : Int) < (l.length : Int) := by omega
      have mk : IntKind.i64.wrap ((k : Int) + 1) = (k : Int) + 1 := IntWalk.i64_in _ (by omega)
      obtain ⟨ab, ao, K, c1, V, d1, rfl, _, hal, hc1, hc2, hs1, hs2, hbx, hb2, hcd⟩ := tens_at (Ha.out.below tenR_stays Hbel.out) hlt
      have Hs1 := Lib.hid hs1
      have Hs2 := Lib.hid hs2
      have hfx := (Hf.out _ (List.getElem_mem hlt)).1
      have Hrt := Lib.hid (rootE_ok hfx)
      have Htr := Lib.hid (tree_of hfx)
      have H60 := Lib.hid (pairs_fine hfx).1
      have Hsn := Lib.hid (show (l.take (k + 1)).map rootP = (l.take k).map rootP ++ [rootP l[k]] by rw [take_snoc l k hlt, List.map_append]; rfl)
      have HM := Lib.hid (show ((l.take k).map rootP).length ≤ 8 by rw [List.length_map, List.length_take]; omega)
      generalize (l.take k).map rootP = M at *
      generalize l[k] = x at *
      clear hs1 hs2 hfx
      have Hbox := Lib.hid (show ∀ W, Below wr.heap.size wr W → W.cell? ⟨ab, ao + k * 2, none⟩ = some (.slice K x.1.length c1) ∧ W.cell? ⟨ab, ao + k * 2 + 1, none⟩ = some (.slice V x.2.length d1) ∧ Below w.heap.size w W ∧ wr.heap.size ≤ W.heap.size from fun W hW => ⟨(hW.cell hal).trans hc1, (hW.cell hal).trans hc2, Hbel.out.next hW Hbel.out.size, hW.size⟩)
      have Hkk : ∀ W, Below wr.heap.size wr W → Below wr.heap.size wr W := fun W hW => hW
      go_wp2_with (first
        | (go_at_call 64; (with_reducible refine (rootOf_ok _ V x.2 d1 ?ha H60.out Htr.out).mono ?_); (case ha => exact Hs2.out.z pairR_stays); rintro e w1 ⟨B1, b1, rfl, gs1, hbw1⟩; obtain ⟨q0, q1, hw1, hz1⟩ := Hbox.out w1 hbw1)
        | (go_at_call 55; (with_reducible refine (joinedNil_ok _ K x.1 c1 ?ha hbx).mono ?_); (case ha => exact Hs1.out.bz.bbelow hbw1); rintro e w2 ⟨A2, a2, rfl, gs2, hbw2⟩; have hw2 := hw1.next hbw2 hw1.size; have hz2 := hbw2.size)
        | (at_builtin; refine wpl_snoc pairR_stays (S := From w.heap.size) _ rfl _ _ _ rfl w.heap.size 25 i0 _ 2 48 Tryd.underlying75 hi0 hy0 hy1 hy2 rfl (by decide) _ M rfl ?hown _ _ [.slice A2 x.1.length a2, .slice B1 (rootS x.2).length b1] rfl rfl (new_src _ _ [.slice A2 x.1.length a2, .slice B1 (rootS x.2).length b1] _ (by simp)) (by simp [Value.oneCell']) ?hm ?hby ?hba (x.1, rootS x.2) ?hd ?_; (case hown => exact ((Hown.out.below pairR_stays (Hkk w1 hbw1)).below pairR_stays hbw2).same pairR_stays ((Same.refl _ _).alloc _)); (case hm => (have := HM.out; simp only [maxLen]; omega)); (case hby => (have := HM.out; omega)); (case hba => (simp; omega)); (case hd => (refine pair_fresh (p := (x.1, rootS x.2)) (n := wr.heap.size) (gs2.blo (by first | exact Nat.le_refl _ | omega | (simp; done) | (simp; omega))) ((gs1.blo (by first | exact Nat.le_refl _ | omega | (simp; done) | (simp; omega))).bbelow hbw2) hbx (by rw [rootS_len]; simp [big]) ((Same.refl _ _).alloc _) hbz (Hown.out.apart _ (Nat.le_refl _)))); intro v1 w3 hown3 hbw3; have hw3 : Below w.heap.size w w3 := (hw2.alloc (by omega) _).trans hbw3))
      go_roundw
      case rel => exact ⟨k + 1, by omega, by go_num, by rw [Hsn.out]; exact hown3, hw3⟩
      case measure => simp [intOf]; omega
    · obtain rfl : k = l.length := by omega
      have hki : ¬ (l.length : Int) < (l.length : Int) := by omega
      have h := Hown.out
      rw [List.take_length] at h
      obtain ⟨A1, a1, rfl, hcap, hs⟩ := h.readc pairR_stays
      have Hcap := Lib.hid hcap
      have Hs := Lib.hid hs
      clear h hcap hs Hown hk hlt
      go_wp2
      go_ret
      exact ⟨A1, a1, by rw [List.length_map]; rfl, Hcap.out, Hs.out, Hbel.out⟩
theorem rootsE_ok (w : World) (hT : TabsAt w) (A : Option Addr) (l : List Tn) (c : Nat) (ha : Ps All w A (l.map rootP)) (hc : (l.map rootP).length ≤ c) (hf : pairsFaultS (l.map rootP) = 0) : Calls Tryd.prog 32 #[.slice A l.length c] w (RetBsE w (rootS (l.map rootP), 0)) := by
  have := treeRootE_ok w hT A (l.map rootP) c ha hc
  rw [rootE_ok hf, List.length_map] at this
  exact this
theorem rootOf_at (w : World) (A : Option Addr) (l : List Tn) (c : Nat) (ha : Ps All w A (l.map rootP)) (h8 : l.length ≤ 8) (hf : pairsFaultS (l.map rootP) = 0) : Calls Tryd.prog 64 #[.slice A l.length c] w (RetBs w (rootS (l.map rootP))) := by
  have := rootOf_ok w A (l.map rootP) c ha (by rw [List.length_map]; omega) (tree_of hf)
  rw [List.length_map] at this
  exact this
set_option maxRecDepth 100000 in
set_option maxHeartbeats 1000000 in
theorem forestRoot_ok (w : World) (hT : TabsAt w) (A : Option Addr) (l : List Tn) (c : Nat) (ha : Ts All w A l) : Calls Tryd.prog 62 #[.slice A l.length c] w (RetBsE w (forestRootS l)) := by
  have HT := Lib.hid hT
  have Ha := Lib.hid ha
  clear ha hT
  by_cases hf : forestFaultS l = 0
  · have Hfn := Lib.hid (allFine_of hf)
    have H8 := Lib.hid ((ten_fault_iff l).1 hf).1
    have Hrf := Lib.hid (roots_fine hf)
    have Hv := Lib.hid (show forestRootS l = (rootS (l.map rootP), 0) by rw [forestRootS, if_pos hf])
    have Hf := Lib.hid hf
    clear hf
    go_enter Tryd.func62, Tryd.ntmps62
    go_wp2_with (first
      | (go_at_call 77; (with_reducible refine (forestCheck_ok _ A l c Ha.out).mono ?_); rintro e1 w1 ⟨rfl, hb1⟩; rw [Hf.out])
      | (go_at_call 41; (with_reducible refine (forestRoots_ok _ ?hT A l c ?ha H8.out Hfn.out).mono ?_); (case hT => exact HT.out.below hb1); (case ha => exact Ha.out.below tenR_stays hb1); rintro e w2 ⟨A2, a2, rfl, hcap, hs2, hb2⟩; have hq2 := hb1.next hb2 hb1.size)
      | (go_at_call 32; (with_reducible refine (Calls.mono (rootsE_ok _ ?hT A2 l a2 ?ha hcap Hrf.out) ?_)); (case hT => exact HT.out.below hq2); (case ha => exact hs2.z pairR_stays); rintro e w3 ⟨A3, a3, rfl, hs3, hb3⟩))
    go_ret2
    rw [Hv.out]
    exact ⟨A3, a3, rfl, hs3.blo hq2.size, hq2.next hb3 hq2.size⟩
  · have Hv := Lib.hid (show forestRootS l = ([], forestFaultS l) by rw [forestRootS, if_neg hf])
    have hb : (forestFaultS l != 0) = true := by simpa using hf
    clear hf
    go_enter Tryd.func62, Tryd.ntmps62
    go_wp2_with ((go_at_call 77; (with_reducible refine (forestCheck_ok _ A l c Ha.out).mono ?_); rintro e1 w1 ⟨rfl, hb1⟩))
    go_ret2
    rw [Hv.out]
    exact ⟨none, 0, rfl, SL.nil, hb1⟩
end Go.Proofs.YteacjkihjeiafaaDoor
