/- Walks: tree.Put; the law TreePuts. -/
import Derived.Test.YthhcdibimnifaaaPut
import Derived.Test.YthhcdibimnifaaaCopy
import Derived.Test.YthhcdibimnifaaaFind
namespace Go.Proofs.Ythhcdibimnifaaa
open Go.RowKit
set_option linter.unusedVariables false
set_option linter.unusedSimpArgs false

set_option maxRecDepth 100000 in
set_option maxHeartbeats 1000000 in
theorem treePut_ok (w : World) (A : Option Addr) (l : List Pr) (c : Nat) (P Q : Option Addr) (p : Pr) (pc pd : Nat) (ha : Ps All w A l) (hp1 : Bs All w P p.1) (hp2 : Bs All w Q p.2) :
    Calls Try.prog 33 #[.slice A l.length c, .agg #[.slice P p.1.length pc, .slice Q p.2.length pd]] w (RetPE w (putS l p)) := by
  have Ha := Lib.hid ha
  have Hp1 := Lib.hid hp1
  have Hp2 := Lib.hid hp2
  clear ha hp1 hp2
  by_cases h1 : pairsFaultS l = 0
  · have b1 : (pairsFaultS l != 0) = false := by simp [h1]
    obtain ⟨hl60, _, hrise⟩ := pairs_fine h1
    have Hr := Lib.hid (show Rise (keys l) from hrise)
    have Hl := Lib.hid hl60
    have H1 := Lib.hid h1
    clear h1 hrise
    by_cases h2 : pairFaultS p = 0
    · have b2 : (pairFaultS p != 0) = false := by simp [h2]
      have Hpp := Lib.hid (show ppFault l p = 0 by simp [ppFault, H1.out, h2])
      have Hpb := Lib.hid (pairFine_big h2)
      clear h2
      go_enter Try.func33, Try.ntmps33
      go_wp2_with (first
        | (go_at_call 83; refine (treeCheck_ok _ A l c (Ha.out.below pairR_stays ?_)).mono ?_; (repeat' (first | exact Below.refl _ _ | assumption | refine Below.drew ?_ | refine below_drewN ?_ _ | refine Below.alloc ?_ (by first | exact Nat.le_refl _ | omega | (simp; done) | (simp; omega)) _)); rintro e w2 ⟨rfl, hb2⟩; have hg0 : w2.cell? ⟨w.heap.size, 0, none⟩ = some (.slice P p.1.length pc) := (hb2.cell (by first | (simp; done) | omega | (simp; omega))).trans (by simp); have hg1 : w2.cell? ⟨w.heap.size, 1, none⟩ = some (.slice Q p.2.length pd) := (hb2.cell (by first | (simp; done) | omega | (simp; omega))).trans (by simp))
        | (go_at_call 97; refine (treePair_ok _ P Q p pc pd).mono ?_; rintro e w1 ⟨rfl, hb1⟩))
      clear b1 b2
      have hbox : w2.heap[w.heap.size]? = some (.cells #[.slice P p.1.length pc, .slice Q p.2.length pd] 39 (0, 0)) := (hb2.block w.heap.size (by first | (simp; done) | omega | (simp; omega))).trans (box_new w _ _)
      have hz2' : w.heap.size + 1 ≤ w2.heap.size := by have := hb2.size; simpa using this
      have hb02 : Below w.heap.size w w2 := ((Below.refl w.heap.size w).alloc (Nat.le_refl _) _).next hb2 (by first | (simp; done) | omega | (simp; omega))
      have hz1' : w2.heap.size ≤ w1.heap.size := hb1.size
      have hb01 : Below w.heap.size w w1 := hb02.next hb1 (by omega)
      have hbox1 : w1.heap[w.heap.size]? = some (.cells #[.slice P p.1.length pc, .slice Q p.2.length pd] 39 (0, 0)) := (hb1.block w.heap.size (by omega)).trans hbox
      have Hbox := Lib.hid hbox1
      have Hb1 := Lib.hid hb01
      have hzb : w.heap.size < w1.heap.size := by omega
      clear hbox hbox1 hb02 hb01 hb1 hb2 hz1' hz2' hg0 hg1
      refine (treeAll_own _ A l c (Ha.out.below pairR_stays Hb1.out) (by omega)).mono ?_
      rintro e w3 ⟨v, rfl, hown, hb3⟩
      obtain ⟨A2, c2, rfl, hc2, hs2⟩ := hown.readc pairR_stays
      have Hown := Lib.hid hown
      have Hs2 := Lib.hid hs2
      have Hb13 := Lib.hid hb3
      have Hb3 := Lib.hid (Hb1.out.next hb3 Hb1.out.size)
      obtain ⟨g0, g1, _, _⟩ := box2 ((hb3.block _ hzb).trans Hbox.out)
      clear hown hs2 hb3
      go_wp2_with fail
      refine (treeFind_ok _ A2 l c2 P p.1 pc (Hs2.out.z pairR_stays) (Hp1.out.bbelow Hb3.out) Hl.out Hr.out).mono ?_
      rintro e w4 ⟨i, rfl, hati, hb4⟩
      have Hb14 := Lib.hid (Hb13.out.next hb4 Hb13.out.size)
      have Hb4 := Lib.hid (Hb3.out.next hb4 Hb3.out.size)
      have Hown4 := Lib.hid (Hown.out.below pairR_stays hb4)
      obtain ⟨g0, g1, _, _⟩ := box2 ((Hb14.out.block _ hzb).trans Hbox.out)
      have hz14 := Hb14.out.size
      clear hb4
      by_cases hf : (keys l)[i]? = some p.1
      · rw [decide_eq_true hf]
        have hik : i < (keys l).length := by
          rcases Nat.lt_or_ge i (keys l).length with h | h
          · exact h
          · rw [List.getElem?_eq_none h] at hf; cases hf
        have hil : i < l.length := by simpa [keys] using hik
        have hli : l[i].1 = p.1 := by
          rw [List.getElem?_eq_getElem hik, keys_at] at hf
          exact Option.some.inj hf
        have Hset := Lib.hid (putAll_set Hr.out hil hli)
        have Hv := Lib.hid (show putS l p = (l.set i p, 0) by
          simp only [putS, Hpp.out, Hset.out]
          rw [if_neg (by simp), if_neg (by rw [List.length_set]; omega)])
        obtain ⟨g, cap, cur, css, hvv, hge, hglt, hh, hcap, hmx, hcur, _⟩ := Hown4.out.row pairR_stays (by omega)
        cases hvv
        have Hfacts := Lib.hid (show ∀ W, Below w4.heap.size w4 W → (∃ u, W.cell? ⟨g, i * 2, none⟩ = some u) ∧ (∃ u, W.cell? ⟨g, i * 2 + 1, none⟩ = some u) ∧ W.frozen? ⟨g, i * 2, none⟩ = false ∧ W.frozen? ⟨g, i * 2 + 1, none⟩ = false from fun W hW => by
          have hh' := (hW.block g hglt).trans hh
          have hc : ∀ j, j < c2 * 2 → ∃ u, W.cell? ⟨g, j, none⟩ = some u := fun j hj => by
            refine ⟨cur[j]'(by omega), ?_⟩
            rw [cell_of_row W g j cur _ _ hh', Array.getElem?_eq_getElem]
          exact ⟨hc _ (by omega), hc _ (by omega), frozen_of_row W g _ cur _ hh', frozen_of_row W g _ cur _ hh'⟩)
        have hi1 : (i : Int) < (l.length : Int) := by omega
        clear hf hik hli hati hh hcur hmx
        go_wp2_with (go_at_call 98; refine (treeOwn_ok _ P Q p pc pd (Hp1.out.bbelow Hb4.out) (Hp2.out.bbelow Hb4.out) Hpb.out.1 Hpb.out.2).mono ?_; rintro e w5 ⟨A5, c5, B5, d5, rfl, gs1, gs2, hb5⟩; obtain ⟨⟨u1, hu1⟩, ⟨u2, hu2⟩, hf1, hf2⟩ := Hfacts.out w5 hb5)
        go_ret2
        have hown6 := (Hown4.out.below pairR_stays hb5).put pairR_stays hil (c := [.slice A5 p.1.length c5, .slice B5 p.2.length d5]) rfl (x := p)
          ⟨A5, c5, B5, d5, rfl, gs1.bless (fun b _ h => ⟨by have h' := h; simp only [From] at h' ⊢; omega, by have h' := h; simp only [From] at h'; omega⟩), gs2.bless (fun b _ h => ⟨by have h' := h; simp only [From] at h' ⊢; omega, by have h' := h; simp only [From] at h'; omega⟩), Hpb.out.1, Hpb.out.2⟩
        have hl' : (l.set i p).length = l.length := List.length_set
        rw [← hl'] at hown6
        obtain ⟨A6, c6, he6, hc6, hs6⟩ := hown6.readc pairR_stays
        rw [Hv.out]
        cases he6
        refine ⟨some ⟨g, 0, none⟩, c2, by simp, hc6, hs6.lo pairR_stays (by omega), ?_⟩
        · exact Below.setCell (Below.setCell (Hb4.out.next hb5 (by omega)) (by simp only []; omega) _) (by simp only []; omega) _
      · rw [decide_eq_false hf]
        have Hins := Lib.hid (putAll_ins Hr.out hati hf)
        have hil : i ≤ l.length := by have := hati.le; simpa [keys] using this
        by_cases hfull : l.length = 60
        · have Hv := Lib.hid (show putS l p = ([], 11) by
            simp only [putS, Hpp.out, Hins.out]
            rw [if_neg (by simp), if_pos (by rw [ins_len]; omega)])
          have b3 : ((l.length : Int) == 60) = true := by simp; omega
          clear hf hati hfull
          go_wp2
          go_ret2
          rw [Hv.out]
          exact ⟨none, 0, rfl, Nat.le_refl _, SL.nil, Hb4.out⟩
        · have Hv := Lib.hid (show putS l p = (ins l i p, 0) by
            simp only [putS, Hpp.out, Hins.out]
            rw [if_neg (by simp), if_neg (by rw [ins_len]; omega)])
          have b3 : ((l.length : Int) == 60) = false := by simp; omega
          clear hf hati hfull
          go_wp2_with (go_at_call 98; refine (treeOwn_ok _ P Q p pc pd (Hp1.out.bbelow Hb4.out) (Hp2.out.bbelow Hb4.out) Hpb.out.1 Hpb.out.2).mono ?_; rintro e w5 ⟨A5, c5, B5, d5, rfl, gs1, gs2, hb5⟩; have hz5 := hb5.size)
          have hown5 := (Hown4.out.below pairR_stays hb5).below pairR_stays ((Below.refl w5.heap.size w5).alloc (Nat.le_refl _) (.cells #[.slice A5 p.1.length c5, .slice B5 p.2.length d5] 39))
          have hap5 : ∀ b, From w4.heap.size b → (Value.slice A2 l.length c2).ownBlock ≠ some b := Hown4.out.apart _ (Nat.le_refl _)
          refine (sinsert_ok pairR_stays pairR_one _ w1.heap.size (.slice A2 l.length c2) l i p w5.heap.size [.slice A5 p.1.length c5, .slice B5 p.2.length d5] 39 hown5 hil (by simp; omega) (by omega) (box_new w5 _ _) (hap5 _ (by simp only [From]; omega)) rfl ?_).mono ?_
          · exact pair_fresh (n := w4.heap.size) gs1 gs2 Hpb.out.1 Hpb.out.2 ((Same.refl _ _).alloc _) (by omega) hap5
          · rintro e w6 ⟨v6, rfl, hown6, hb6⟩
            obtain ⟨A6, c6, rfl, hc6, hs6⟩ := hown6.readc pairR_stays
            have Hs6 := Lib.hid hs6
            clear hs6 hown6 hown5
            go_wp2
            go_ret2
            rw [Hv.out]
            exact ⟨A6, c6, rfl, hc6, Hs6.out.lo pairR_stays (by omega), ((Hb4.out.next hb5 (by omega)).alloc (by omega) _).trans (hb6.mono (by omega))⟩
    · have b2 : (pairFaultS p != 0) = true := by simpa using h2
      have Hv := Lib.hid (show putS l p = ([], pairFaultS p) by simp [putS, ppFault, H1.out, h2])
      clear h2
      go_enter Try.func33, Try.ntmps33
      go_wp2_with (first
        | (go_at_call 83; refine (treeCheck_ok _ A l c (Ha.out.below pairR_stays ?_)).mono ?_; (repeat' (first | exact Below.refl _ _ | assumption | refine Below.drew ?_ | refine below_drewN ?_ _ | refine Below.alloc ?_ (by first | exact Nat.le_refl _ | omega | (simp; done) | (simp; omega)) _)); rintro e w2 ⟨rfl, hb2⟩; have hg0 : w2.cell? ⟨w.heap.size, 0, none⟩ = some (.slice P p.1.length pc) := (hb2.cell (by first | (simp; done) | omega | (simp; omega))).trans (by simp); have hg1 : w2.cell? ⟨w.heap.size, 1, none⟩ = some (.slice Q p.2.length pd) := (hb2.cell (by first | (simp; done) | omega | (simp; omega))).trans (by simp))
        | (go_at_call 97; refine (treePair_ok _ P Q p pc pd).mono ?_; rintro e w1 ⟨rfl, hb1⟩))
      go_ret2
      rw [Hv.out]
      exact ⟨none, 0, rfl, Nat.le_refl _, SL.nil, (((Below.refl w.heap.size w).alloc (Nat.le_refl _) _).next hb2 (by first | (simp; done) | omega | (simp; omega))).next hb1 (by have hz := hb2.size; simp at hz; omega)⟩
  · have b2 : (pairsFaultS l != 0) = true := by simpa using h1
    have Hv := Lib.hid (show putS l p = ([], pairsFaultS l) by simp [putS, ppFault, h1])
    clear h1
    go_enter Try.func33, Try.ntmps33
    go_wp2_with (go_at_call 83; refine (treeCheck_ok _ A l c (Ha.out.below pairR_stays ?_)).mono ?_; (repeat' (first | exact Below.refl _ _ | assumption | refine Below.drew ?_ | refine below_drewN ?_ _ | refine Below.alloc ?_ (by first | exact Nat.le_refl _ | omega | (simp; done) | (simp; omega)) _)); rintro e w2 ⟨rfl, hb2⟩)
    go_ret2
    rw [Hv.out]
    exact ⟨none, 0, rfl, Nat.le_refl _, SL.nil, ((Below.refl w.heap.size w).alloc (Nat.le_refl _) _).next hb2 (by first | (simp; done) | omega | (simp; omega))⟩
theorem putS_len (l : List Pr) (p : Pr) : (putS l p).1.length ≤ 2 * l.length + 1 := by
  unfold putS
  split
  · simp
  · split
    · simp
    · exact putAll_len p l
end Go.Proofs.Ythhcdibimnifaaa
