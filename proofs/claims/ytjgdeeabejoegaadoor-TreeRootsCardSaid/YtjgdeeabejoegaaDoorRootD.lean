/- Walks: canopyref.rootOf and RootOf; the law TreeRoots. -/
import Derived.Test.YtjgdeeabejoegaaDoorRootC
import Derived.Test.YtjgdeeabejoegaaDoorCopy
namespace Go.Proofs.YtjgdeeabejoegaaDoor
open Go.RowKit
set_option linter.unusedVariables false
set_option linter.unusedSimpArgs false

set_option maxRecDepth 100000 in
set_option maxHeartbeats 1000000 in
theorem rootOf_n : ∀ (n : Nat) (l : List Pr) (_ : l.length ≤ n) (w : World) (A : Option Addr) (m c : Nat) (_ : m = l.length) (_ : Ps All w A l) (_ : l.length ≤ 60) (_ : Tree l),
    Calls Tryd.prog 50 #[.slice A m c] w (RetBs w (rootS l)) := by
  intro n
  induction n with
  | zero =>
    intro l hl w A m c hm ha h60 ht
    subst hm
    have h0 : l.length = 0 := by omega
    rw [root_zero h0, h0]
    clear ha hl h60 ht h0
    go_enter Tryd.func50, Tryd.ntmps50
    go_wp2_with ((go_at_call 63; (with_reducible refine (noneDigest_ok _).mono ?_); rintro e1 w1 ⟨B, b, rfl, hs, hb⟩))
    go_ret
    exact ⟨B, b, rfl, hs, hb⟩
  | succ n ih =>
    intro l hl w A m c hm ha h60 ht
    subst hm
    have Ha := Lib.hid ha
    by_cases h0 : l.length = 0
    · rw [root_zero h0, h0]
      clear ha hl h60 ht h0 ih Ha
      go_enter Tryd.func50, Tryd.ntmps50
      go_wp2_with ((go_at_call 63; (with_reducible refine (noneDigest_ok _).mono ?_); rintro e1 w1 ⟨B, b, rfl, hs, hb⟩))
      go_ret
      exact ⟨B, b, rfl, hs, hb⟩
    · by_cases h2 : l.length = 1
      · rw [root_one h2, getD_at (show 0 < l.length by omega)]
        have Hp := Lib.hid (show l[0].1.length + l[0].2.length ≤ 3000 by have := ht.k16 (List.getElem_mem (show 0 < l.length by omega)); have := ht.val _ (List.getElem_mem (show 0 < l.length by omega)); omega)
        obtain ⟨g, off, K0, c0, V0, d0, rfl, _, hgl, q0, q1, hs0, hs1, _, _⟩ := pairs_at ha (show 0 < l.length by omega)
        simp only [Nat.zero_mul, Nat.add_zero] at q0 q1
        have Hs0 := Lib.hid hs0
        have Hs1 := Lib.hid hs1
        generalize l[0] = x at *
        rw [h2]
        clear hl ha h60 ht hs0 hs1 h2 ih h0 Ha
        go_enter Tryd.func50, Tryd.ntmps50
        go_wp2_with (go_at_call 104; (with_reducible refine (leafDigest_ok _ K0 V0 x c0 d0 Hs0.out.bz Hs1.out.bz Hp.out).mono ?_); rintro e1 w1 ⟨B1, e1, rfl, hr1, hb1⟩)
        go_ret
        exact ⟨B1, _, rfl, hr1, hb1⟩
      · have h22 : 2 ≤ l.length := by omega
        obtain ⟨d, hp⟩ := ht.parts h22
        obtain ⟨hn1, hn2, _⟩ := left_lt hp h22
        have Hv := Lib.hid (root_two ht h22)
        rw [hp.bit] at Hv
        have Hsd := Lib.hid (sides_ok w A l c d ha hp h22 h60 ht)
        have Hx := Lib.hid (ih (l.take (leftN l)) (by rw [List.length_take]; omega))
        have Hy := Lib.hid (ih (l.drop (leftN l)) (by rw [List.length_drop]; omega))
        have Htx := Lib.hid (ht.take (leftN l))
        have Hty := Lib.hid (ht.drop (leftN l))
        have Hd := Lib.hid hp.d144
        have Hlx := Lib.hid (show (l.take (leftN l)).length ≤ 60 by rw [List.length_take]; omega)
        have Hly := Lib.hid (show (l.drop (leftN l)).length ≤ 60 by rw [List.length_drop]; omega)
        have Hne := Lib.hid (show (l.take (leftN l)).length ≠ (l.drop (leftN l)).length ∨ True from .inr trivial)
        generalize l.take (leftN l) = x at *
        generalize l.drop (leftN l) = y at *
        have hz : ((l.length : Int) == 0) = false := by rw [beq_eq_false_iff_ne]; omega
        have hz' : decide ((l.length : Int) = 0) = false := decide_eq_false (by omega)
        have hy : ((l.length : Int) == 1) = false := by rw [beq_eq_false_iff_ne]; omega
        have hy' : decide ((l.length : Int) = 1) = false := decide_eq_false (by omega)
        clear hl ha ht hp ih h2 h0 h22 Hne hn1 hn2 h60
        go_enter Tryd.func50, Tryd.ntmps50
        go_wp2_with ((go_at_call 72; (with_reducible refine Hsd.out.mono ?_); rintro e1 w1 ⟨X, a, Y, b, rfl, hsx, hsy, hb1⟩))
        have Hsy := Lib.hid hsy
        refine (Hx.out _ X _ _ rfl hsx Hlx.out Htx.out).mono ?_
        rintro e2 w2 ⟨B2, b2, rfl, hs2, hb2⟩
        go_wp2_with fail
        refine (Hy.out _ Y _ _ rfl (Hsy.out.below pairR_stays hb2) Hly.out Hty.out).mono ?_
        rintro e3 w3 ⟨B3, b3, rfl, hs3, hb3⟩
        go_wp2_with ((go_at_call 105; (with_reducible refine (forkDigest_ok _ B2 B3 d _ _ b2 b3 ?ha ?hb ?hl ?hd).mono ?_); (case ha => exact (hs2.bbelow hb3).bz); (case hb => exact hs3.bz); (case hl => (rw [rootS_len, rootS_len]; omega)); (case hd => (have := Hd.out; omega)); rintro e4 w4 ⟨Z, cz, rfl, hsz, hb4⟩))
        go_ret
        rw [Hv.out]
        have hq3 := (hb1.next hb2 hb1.size).next hb3 (Nat.le_trans hb1.size hb2.size)
        exact ⟨Z, cz, rfl, hsz.blo hq3.size, hq3.next hb4 hq3.size⟩
theorem rootOf_ok (w : World) (A : Option Addr) (l : List Pr) (c : Nat) (ha : Ps All w A l) (h60 : l.length ≤ 60) (ht : Tree l) : Calls Tryd.prog 50 #[.slice A l.length c] w (RetBs w (rootS l)) :=
  rootOf_n l.length l (Nat.le_refl _) w A l.length c rfl ha h60 ht
set_option maxRecDepth 100000 in
set_option maxHeartbeats 1000000 in
theorem rootOfE_ok (w : World) (A : Option Addr) (l : List Pr) (c : Nat) (ha : Ps All w A l) : Calls Tryd.prog 26 #[.slice A l.length c] w (RetBsE w (rootE l)) := by
  have Ha := Lib.hid ha
  clear ha
  by_cases hf : pairsFaultS l = 0
  · have Ht := Lib.hid (tree_of hf)
    have H60 := Lib.hid (pairs_fine hf).1
    have Hv := Lib.hid (show rootE l = (rootS l, 0) by rw [rootE, if_pos hf])
    have Hf := Lib.hid hf
    clear hf
    go_enter Tryd.func26, Tryd.ntmps26
    go_wp2_with (first
      | (go_at_call 49; (with_reducible refine (pairsFault_ok _ A l c Ha.out).mono ?_); rintro e1 w1 ⟨rfl, hb1⟩; rw [Hf.out])
      | (go_at_call 50; (with_reducible refine (rootOf_ok _ A l c ?ha H60.out Ht.out).mono ?_); (case ha => exact Ha.out.below pairR_stays hb1); rintro e2 w2 ⟨B, d, rfl, hs, hb2⟩))
    go_ret2
    rw [Hv.out]
    exact ⟨B, d, rfl, hs.blo hb1.size, hb1.next hb2 hb1.size⟩
  · have Hv := Lib.hid (show rootE l = ([], pairsFaultS l) by rw [rootE, if_neg hf])
    have hb : (pairsFaultS l != 0) = true := by simpa using hf
    clear hf
    go_enter Tryd.func26, Tryd.ntmps26
    go_wp2_with ((go_at_call 49; (with_reducible refine (pairsFault_ok _ A l c Ha.out).mono ?_); rintro e1 w1 ⟨rfl, hb1⟩))
    go_ret2
    rw [Hv.out]
    exact ⟨none, 0, rfl, SL.nil, hb1⟩
set_option maxRecDepth 100000 in
set_option maxHeartbeats 1000000 in
theorem treeRoots_walk (w : World) (hT : TabsAt w) {A : Option Addr} {l : List Pr} {c : Nat} (h : Ps All w A l ∧ l.length * 48 ≤ 140737488355328) :
    Calls Tryd.prog 7 #[.slice A l.length c] w (RetV w (.bool true)) := by
  have HT := Lib.hid hT
  have H := Lib.hid h
  have Hl := Lib.hid (show l.length ≤ big by have := h.2; unfold big; omega)
  obtain ⟨r, ri, hr⟩ : ∃ r ri, rootE l = (r, ri) := ⟨_, _, rfl⟩
  have Hr := Lib.hid hr
  clear h hT hr
  go_enter Tryd.func7, Tryd.ntmps7
  go_wp2_with (first
    | (go_at_call 24; go_in)
    | (go_at_call 46; refine (pairsCopy_cap _ A l c H.out.1 H.out.2).mono ?_; rintro e w1 ⟨A1, c1, rfl, hcap, hs1, hb1⟩)
    | (go_at_call 25; refine (treeRootE_ok _ (HT.out.below hb1) A1 l c1 (hs1.z pairR_stays) hcap).mono ?_; rw [Hr.out]; rintro e w2 ⟨B2, b2, rfl, hs2, hb2⟩; have hq2 := hb1.next hb2 hb1.size)
    | (go_at_call 26; refine (rootOfE_ok _ A l c (H.out.1.below pairR_stays hq2)).mono ?_; rw [Hr.out]; rintro e w3 ⟨B3, b3, rfl, hs3, hb3⟩; have hq3 := hq2.next hb3 hq2.size)
    | (go_at_call 21; (with_reducible refine (sameBytes_ok _ B2 B3 r r b2 b3 ?ha ?hb).mono ?_); (case ha => exact (hs2.bbelow hb3).bz); (case hb => exact hs3.bz); rintro e4 w4 ⟨rfl, rfl⟩)
    | (go_at_call 27; (with_reducible refine (samePairs_ok _ A1 A l c1 c ?hx ?hy Hl.out).mono ?_); (case hx => exact (hs1.z pairR_stays).below pairR_stays (hb2.next hb3 hb2.size)); (case hy => exact H.out.1.below pairR_stays hq3); rintro e5 w5 ⟨rfl, hb5⟩))
  all_goals
    go_ret
    exact ⟨by simp, by first | exact hq3.next hb5 hq3.size | exact hq3⟩
end Go.Proofs.YtjgdeeabejoegaaDoor
