/- Walk: roundNumbers of the reference. -/
import Derived.Test.YtjgdeeabejoegaaDoorDigM
namespace Go.Proofs.YtjgdeeabejoegaaDoor
open Go.RowKit
set_option linter.unusedVariables false
set_option linter.unusedSimpArgs false

def zc (l : List Ln) : List Value := l.map fun x => Value.int .i64 (iv x)
/-- The call returns the 24 numbers in a new block. -/
def RetNums (w : World) (e : Ending) (w' : World) : Prop :=
  ∃ g c, e = .returned (.slice (some ⟨g, 0, none⟩) 24 c) ∧ w.heap.size ≤ g ∧ g < w'.heap.size ∧ (∀ k, k < 24 → w'.cell? ⟨g, k, none⟩ = some (.int .i64 (iv (rcS k)))) ∧ Below w.heap.size w w'
theorem regS_next (k j : Nat) : regS (7 * k + (j + 1)) = regStep (regS (7 * k + j)) := rfl
set_option maxRecDepth 100000 in
set_option maxHeartbeats 4000000 in
theorem roundNumbers_ok (w : World) : Calls Tryd.prog 93 #[] w (RetNums w) := by
  obtain ⟨i0, hi0, hz0, hz1, hz2⟩ := info_parts info_int
  have Hz := Lib.hid (show (0 : Int) = iv (bitsT 0 0) from rfl)
  go_enter Tryd.func93, Tryd.ntmps93
  go_wp2
  go_loopw [1, 2, 3, 4, 5, 6] (fun v r n _ _ _ wr => ∃ k : Nat, k ≤ 24 ∧ wr.ownsRow w.heap.size 3 1 v k (zc (numsS k)) ∧ r = .int .i64 ((regS (7 * k) : Nat) : Int) ∧ n = .int .i64 k ∧ Below w.heap.size w wr) (fun _ _ n _ _ _ _ => 24 - (intOf n).toNat)
  case atStart => exact ⟨0, by omega, World.ownsRow_nil _ _ _ _, rfl, rfl, Below.refl _ _⟩
  case round =>
    obtain ⟨k, hk, hown, rfl, rfl, hbel⟩ := hrel
    have Hown := Lib.hid hown
    have Hbel := Lib.hid hbel
    clear hown hbel
    by_cases hlt : k < 24
    · have k24 : (k : Int) < 24 := by omega
      go_wp2
      obtain ⟨wm, rfl⟩ : ∃ wm : World, wm = wr := ⟨_, rfl⟩
      go_loopw [2, 4, 5, 6] (fun r l p n wr => ∃ j : Nat, j ≤ 7 ∧ r = .int .i64 ((regS (7 * k + j) : Nat) : Int) ∧ l = .int .i64 (iv (bitsT k j)) ∧ p = .int .i64 ((2 ^ j : Nat) : Int) ∧ n = .int .i64 j ∧ wr = wm) (fun _ _ _ n _ => 7 - (intOf n).toNat)
      case atStart => exact ⟨0, by omega, rfl, rfl, rfl, rfl, rfl⟩
      case round =>
        obtain ⟨j, hj, rfl, rfl, rfl, rfl, rfl⟩ := hrel
        have Hrn := Lib.hid (regS_next k j)
        have hrl := reg_lt (7 * k + j)
        have Hbn := Lib.hid (show bitsT k (j + 1) = if regS (7 * k + j) % 2 = 1 then bitsT k j + pw (2 ^ j - 1) else bitsT k j from rfl)
        obtain ⟨r, hr⟩ : ∃ r, r = regS (7 * k + j) := ⟨_, rfl⟩
        have Hr0 := Lib.hid hr
        rw [← hr] at Hrn Hbn hrl ⊢
        clear hr
        by_cases hlt2 : j < 7
        · have j7 : (j : Int) < 7 := by omega
          have hpb : 2 ^ j ≤ 64 := by
            have h : 2 ^ j ≤ 2 ^ 6 := Nat.pow_le_pow_right (by omega) (by omega)
            exact h
          have hp0 : 0 < 2 ^ j := Nat.pow_pos (by omega)
          have hp2 : 2 ^ (j + 1) = 2 * 2 ^ j := by rw [Nat.pow_succ, Nat.mul_comm]
          obtain ⟨p, hp⟩ : ∃ p, p = 2 ^ j := ⟨_, rfl⟩
          rw [← hp] at hpb hp0 hp2 Hbn ⊢
          have Hp2 := Lib.hid hp2
          obtain ⟨pn, hpn⟩ : ∃ pn, pn = p - 1 := ⟨_, rfl⟩
          rw [← hpn] at Hbn
          obtain ⟨m, hm⟩ : ∃ m, m = r % 2 := ⟨_, rfl⟩
          have t1 : (r : Int).tmod 2 = (m : Int) := by rw [Int.tmod_eq_emod_of_nonneg (by omega)]; omega
          have t2 : IntKind.i64.wrap ((p : Int) - 1) = (pn : Int) := by rw [IntWalk.i64_in _ (by omega)]; omega
          have t3 : IntKind.i64.wrap (2 * (p : Int)) = 2 * (p : Int) := IntWalk.i64_in _ (by omega)
          have t4 : IntKind.i64.wrap (2 * (r : Int)) = 2 * (r : Int) := IntWalk.i64_in _ (by omega)
          have hpw := power_ok wr pn (by omega)
          have Hadd := Lib.hid (iv_add (bitsT k j) (pw pn))
          have Hm := Lib.hid hm
          by_cases h1 : m = 1 <;> by_cases h2 : 255 < 2 * r
          all_goals
            first
              | have z1 : ((m : Int) == 1) = true := by simp; omega
              | have z1 : ((m : Int) == 1) = false := by simp; omega
            first
              | have z2 : (255 : Int) < 2 * (r : Int) := by omega
              | have z2 : ¬ (255 : Int) < 2 * (r : Int) := by omega
          · obtain ⟨a, ha⟩ : ∃ a, a = 2 * r - 256 := ⟨_, rfl⟩
            have t5 : IntKind.i64.wrap (2 * (r : Int) - 256) = (a : Int) := by rw [IntWalk.i64_in _ (by omega)]; omega
            have t6 : bits .xor .i64 (a : Int) 113 = ((a ^^^ 113 : Nat) : Int) := xor_small (a := a) (b := 113) (by omega) (by omega)
            have Hrr := Lib.hid (show regS (7 * k + (j + 1)) = a ^^^ 113 by rw [Hrn.out, regStep, if_pos h2, ha])
            have Hbb := Lib.hid (show bitsT k (j + 1) = bitsT k j + pw pn by rw [Hbn.out, if_pos (by omega)])
            generalize a ^^^ 113 = x at *
            subst h1
            clear hp hp2 hpn hm ha Hrn Hbn
            go_wp2_with ((go_at_call 122; (with_reducible refine hpw.mono ?_); rintro e w1 ⟨rfl, rfl⟩))
            go_roundw
            case rel => exact ⟨j + 1, by omega, by rw [Hrr.out], by rw [Hbb.out, ← Hadd.out, IntWalk.i64_left], by rw [Hp2.out]; go_num, by go_num, trivial⟩
            case measure => simp [intOf]; omega
          · have Hrr := Lib.hid (show regS (7 * k + (j + 1)) = 2 * r by rw [Hrn.out, regStep, if_neg h2])
            have Hbb := Lib.hid (show bitsT k (j + 1) = bitsT k j + pw pn by rw [Hbn.out, if_pos (by omega)])
            subst h1
            clear hp hp2 hpn hm Hrn Hbn
            go_wp2_with ((go_at_call 122; (with_reducible refine hpw.mono ?_); rintro e w1 ⟨rfl, rfl⟩))
            go_roundw
            case rel => exact ⟨j + 1, by omega, by rw [Hrr.out]; go_num, by rw [Hbb.out, ← Hadd.out, IntWalk.i64_left], by rw [Hp2.out]; go_num, by go_num, trivial⟩
            case measure => simp [intOf]; omega
          · obtain ⟨a, ha⟩ : ∃ a, a = 2 * r - 256 := ⟨_, rfl⟩
            have t5 : IntKind.i64.wrap (2 * (r : Int) - 256) = (a : Int) := by rw [IntWalk.i64_in _ (by omega)]; omega
            have t6 : bits .xor .i64 (a : Int) 113 = ((a ^^^ 113 : Nat) : Int) := xor_small (a := a) (b := 113) (by omega) (by omega)
            have Hrr := Lib.hid (show regS (7 * k + (j + 1)) = a ^^^ 113 by rw [Hrn.out, regStep, if_pos h2, ha])
            have Hbb := Lib.hid (show bitsT k (j + 1) = bitsT k j by rw [Hbn.out, if_neg (by omega)])
            generalize a ^^^ 113 = x at *
            clear hp hp2 hpn hm ha Hrn Hbn
            go_wp2
            go_roundw
            case rel => exact ⟨j + 1, by omega, by rw [Hrr.out], by rw [Hbb.out], by rw [Hp2.out]; go_num, by go_num, trivial⟩
            case measure => simp [intOf]; omega
          · have Hrr := Lib.hid (show regS (7 * k + (j + 1)) = 2 * r by rw [Hrn.out, regStep, if_neg h2])
            have Hbb := Lib.hid (show bitsT k (j + 1) = bitsT k j by rw [Hbn.out, if_neg (by omega)])
            clear hp hp2 hpn hm Hrn Hbn
            go_wp2
            go_roundw
            case rel => exact ⟨j + 1, by omega, by rw [Hrr.out]; go_num, by rw [Hbb.out], by rw [Hp2.out]; go_num, by go_num, trivial⟩
            case measure => simp [intOf]; omega
        · have hj7 : j = 7 := by omega
          have Hr7 := Lib.hid (show regS (7 * (k + 1)) = r by have h := Hr0.out; rw [hj7] at h; exact h.symm)
          have Hl7 := Lib.hid (show bitsT k j = rcS k by rw [hj7]; exact bits_rc k hlt)
          have hn7 : ¬ (j : Int) < 7 := by omega
          have Hl := Lib.hid (show Value.int .i64 (iv (bitsT k j)) = Value.int .i64 (iv (rcS k)) by rw [Hl7.out])
          generalize iv (bitsT k j) = lv at *
          clear hlt2 hj hj7 Hrn Hbn
          go_wp2_with (at_builtin; refine wpl_app _ rfl _ _ _ rfl w.heap.size 3 i0 (.int .i64 0) 1 8 Tryd.underlying125 hi0 hz0 hz1 hz2 rfl (by decide) _ k _ rfl (Hown.out.alloc _) (some ⟨wr.heap.size, 0, none⟩) 1 1 [.int .i64 lv] rfl rfl (one_src _ _ _) (by simp [Value.oneCell']) (by unfold maxLen; omega) (by omega) (by have := Hbel.out.size; simp; omega) ?_; intro v1 w1 hown1 hg1 hat1)
          have Hown1 := Lib.hid (show w1.ownsRow w.heap.size 3 1 v1 (k + 1) (zc (numsS (k + 1))) by
            rw [nums_next, zc, List.map_append]
            have e : [Value.int .i64 lv] = [rcS k].map fun x => Value.int .i64 (iv x) := by rw [Hl.out]; rfl
            rw [← e]
            exact hown1)
          have Hb1 := Lib.hid (show Below w.heap.size w w1 from (Hbel.out.alloc (Hbel.out.size) _).trans (own_below (Hown.out.alloc _) hg1 (by have := Hbel.out.size; simp; omega)))
          clear hown1 hg1 hat1
          go_roundw
          case rel => exact ⟨k + 1, by omega, Hown1.out, by rw [Hr7.out], by go_num, Hb1.out⟩
          case measure => simp [intOf]; omega
    · have Hown1 := Lib.hid (show wr.ownsRow w.heap.size 3 1 (u1) 24 (zc (numsS 24)) by have h := Hown.out; rwa [show k = 24 by omega] at h)
      obtain ⟨g, cap, rfl, hgb, hgl, _⟩ := own_some Hown1.out (by omega)
      have hn24 : ¬ (k : Int) < 24 := by omega
      clear hlt hk Hown
      go_wp2
      go_ret
      refine ⟨g, cap, rfl, hgb, hgl, fun i hi => ?_, Hbel.out⟩
      rw [Hown1.out.cellAt i (by omega), zc, List.getElem?_map, List.getElem?_eq_getElem (by rw [nums_len]; exact hi), ← nums_ga (n := 24) hi, ga, List.getD_eq_getElem?_getD, List.getElem?_eq_getElem (by rw [nums_len]; exact hi)]
      rfl
end Go.Proofs.YtjgdeeabejoegaaDoor
