/- The walk of PathParts. -/
import Derived.Test.YtjgdeeabejoegaaDoorBitLaws
namespace Go.Proofs.YtjgdeeabejoegaaDoor
open Go.RowKit
set_option linter.unusedVariables false
set_option linter.unusedSimpArgs false

/-- The first place, of n from k on, at which two keys differ; -1: none. -/
def firstNot (a b : List UInt8) : Nat → Nat → Int
  | 0, _ => -1
  | n + 1, k => if bitB a k = bitB b k then firstNot a b n (k + 1) else (k : Int)
theorem firstNot_at {a b : List UInt8} {k : Nat} (hk : k < 145) : firstNot a b (145 - k) k = if bitB a k = bitB b k then firstNot a b (145 - (k + 1)) (k + 1) else (k : Int) := by
  obtain ⟨m, hm⟩ : ∃ m, 145 - k = m + 1 := ⟨144 - k, by omega⟩
  have e : 145 - (k + 1) = m := by omega
  rw [hm, e]
  rfl
def partS (a b : List UInt8) : Int × Int := if keyFault a = 0 then (if keyFault b = 0 then (firstNot a b 145 0, 0) else (0, keyFault b)) else (0, keyFault a)
set_option maxRecDepth 100000 in
set_option maxHeartbeats 1000000 in
theorem pathPart_ok (w : World) (A B : Option Addr) (a b : List UInt8) (c d : Nat) (ha : Bs All w A a) (hb : Bs All w B b) :
    Calls Tryd.prog 111 #[.slice A a.length c, .slice B b.length d] w (RetV w (.tuple #[.int .i64 (partS a b).1, .int .i64 (partS a b).2])) := by
  have Ha := Lib.hid ha
  have Hb := Lib.hid hb
  clear ha hb
  by_cases hk : keyFault a = 0
  · have H16 := Lib.hid (key16 hk)
    have Hk := Lib.hid hk
    by_cases hm : keyFault b = 0
    · have J16 := Lib.hid (key16 hm)
      have Jk := Lib.hid hm
      have e : partS a b = (firstNot a b 145 0, 0) := by unfold partS; rw [if_pos hk, if_pos hm]
      rw [e]
      obtain ⟨r, hr⟩ : ∃ r, r = firstNot a b 145 0 := ⟨_, rfl⟩
      rw [← hr]
      have Hr := Lib.hid hr
      clear e hk hm hr
      go_enter Tryd.func111, Tryd.ntmps111
      go_wp2_with (go_at_call 75; (first | (with_reducible refine (pathCheck_ok _ A a c).mono ?_; rintro e w1 ⟨rfl, rfl⟩; rw [Hk.out]) | (with_reducible refine (pathCheck_ok _ B b d).mono ?_; rintro e w2 ⟨rfl, rfl⟩; rw [Jk.out])))
      go_loopw [19] (fun i wr => ∃ k : Nat, k ≤ 145 ∧ i = .int .i64 k ∧ r = firstNot a b (145 - k) k ∧ wr = w) (fun i _ => 145 - (intOf i).toNat)
      case atStart => exact ⟨0, by omega, rfl, Hr.out, rfl⟩
      case round =>
        obtain ⟨k, hk, rfl, hr, rfl⟩ := hrel
        by_cases hlt : k < 145
        · rw [firstNot_at hlt] at hr
          rcases Bool.eq_false_or_eq_true (bitB a k) with hxa | hxa <;> rcases Bool.eq_false_or_eq_true (bitB b k) with hxb | hxb
          all_goals
            rw [hxa, hxb] at hr
            have Hxa := Lib.hid hxa
            have Hxb := Lib.hid hxb
            clear hxa hxb
            first
              | (rw [if_neg (by decide)] at hr
                 have Hr2 := Lib.hid hr
                 clear hr
                 go_wp2_with (go_at_call 114; (first | (with_reducible refine (pbit_ok _ A a c k Ha.out hlt H16.out).mono ?_; rintro e w3 ⟨rfl, rfl⟩; rw [Hxa.out]) | (with_reducible refine (pbit_ok _ B b d k Hb.out hlt J16.out).mono ?_; rintro e w4 ⟨rfl, rfl⟩; rw [Hxb.out])))
                 go_ret2
                 exact ⟨by rw [Hr2.out]; rfl, Below.refl _ _⟩)
              | (rw [if_pos rfl] at hr
                 have Hr2 := Lib.hid hr
                 clear hr
                 go_wp2_with (go_at_call 114; (first | (with_reducible refine (pbit_ok _ A a c k Ha.out hlt H16.out).mono ?_; rintro e w3 ⟨rfl, rfl⟩; rw [Hxa.out]) | (with_reducible refine (pbit_ok _ B b d k Hb.out hlt J16.out).mono ?_; rintro e w4 ⟨rfl, rfl⟩; rw [Hxb.out])))
                 exact ⟨⟨k + 1, by omega, rfl, Hr2.out, trivial⟩, by simp [intOf]; omega⟩)
        · obtain rfl : k = 145 := by omega
          rw [show firstNot a b (145 - 145) 145 = -1 from rfl] at hr
          subst hr
          go_wp2
          go_ret2
          exact ⟨rfl, Below.refl _ _⟩
    · have e : partS a b = (0, keyFault b) := by unfold partS; rw [if_pos hk, if_neg hm]
      rw [e]
      have b1 : (keyFault b != 0) = true := by simpa using hm
      clear e hk hm
      go_enter Tryd.func111, Tryd.ntmps111
      go_wp2_with (go_at_call 75; (first | (with_reducible refine (pathCheck_ok _ A a c).mono ?_; rintro e w1 ⟨rfl, rfl⟩; rw [Hk.out]) | (with_reducible refine (pathCheck_ok _ B b d).mono ?_; rintro e w2 ⟨rfl, rfl⟩)))
      go_ret2
      exact ⟨rfl, Below.refl _ _⟩
  · have e : partS a b = (0, keyFault a) := by unfold partS; rw [if_neg hk]
    rw [e]
    have b1 : (keyFault a != 0) = true := by simpa using hk
    clear e hk
    go_enter Tryd.func111, Tryd.ntmps111
    go_wp2_with (go_at_call 75; refine (pathCheck_ok _ A a c).mono ?_; rintro e w1 ⟨rfl, rfl⟩)
    go_ret2
    exact ⟨rfl, Below.refl _ _⟩
set_option maxRecDepth 100000 in
set_option maxHeartbeats 1000000 in
theorem refPart_ok (w : World) (A B : Option Addr) (a b : List UInt8) (c d : Nat) (ha : Bs All w A a) (hb : Bs All w B b) (h16 : a.length ≤ 16) (j16 : b.length ≤ 16) :
    Calls Tryd.prog 115 #[.slice A a.length c, .slice B b.length d] w (RetV w (.int .i64 (firstNot a b 145 0))) := by
  have Ha := Lib.hid ha
  have Hb := Lib.hid hb
  have H16 := Lib.hid h16
  have J16 := Lib.hid j16
  obtain ⟨r, hr⟩ : ∃ r, r = firstNot a b 145 0 := ⟨_, rfl⟩
  rw [← hr]
  have Hr := Lib.hid hr
  have Hl := Lib.hid (all145_len h16)
  have Jl := Lib.hid (all145_len j16)
  clear ha hb hr h16 j16
  go_enter Tryd.func115, Tryd.ntmps115
  go_wp2_with fail
  (with_reducible refine (allBits_ok _ A a c Ha.out H16.out).mono ?_)
  rintro e w1 ⟨A1, d1, rfl, hs1, hb1⟩
  rw [Hl.out]
  have Hs1 := Lib.hid hs1
  have Hb1 := Lib.hid hb1
  clear hs1 hb1
  go_wp2_with fail
  (with_reducible refine (allBits_ok _ B b d (Hb.out.bbelow Hb1.out) J16.out).mono ?_)
  rintro e w2 ⟨B1, d2, rfl, hs2, hb2⟩
  rw [Jl.out]
  have hb02 := Hb1.out.next hb2 Hb1.out.size
  have Hs1' := Lib.hid (Hs1.out.below boolR_stays hb2)
  have Hs2 := Lib.hid hs2
  have Hb2 := Lib.hid hb02
  clear hs2 hb2 hb02 Hs1
  go_wp2
  go_loopw [7] (fun i wr => ∃ k : Nat, k ≤ 145 ∧ i = .int .i64 k ∧ r = firstNot a b (145 - k) k ∧ Below w2.heap.size w2 wr) (fun i _ => 145 - (intOf i).toNat)
  case atStart => exact ⟨0, by omega, rfl, Hr.out, Below.refl _ _⟩
  case round =>
    obtain ⟨k, hk, rfl, hr, hbel⟩ := hrel
    have Hbel := Lib.hid hbel
    clear hbel
    by_cases hlt : k < 145
    · rw [firstNot_at hlt] at hr
      obtain ⟨b1, o1, rfl, hl1, hc1⟩ := bit_at (Hs1'.out.below boolR_stays Hbel.out) H16.out hlt
      obtain ⟨b2, o2, rfl, hl2, hc2⟩ := bit_at (Hs2.out.z boolR_stays |>.below boolR_stays Hbel.out) J16.out hlt
      have hk0 : (0 : Int) ≤ (k : Int) := by omega
      have hk1 : (k : Int) < 145 := by omega
      rcases Bool.eq_false_or_eq_true (bitB a k) with hxa | hxa <;> rcases Bool.eq_false_or_eq_true (bitB b k) with hxb | hxb
      all_goals
        rw [hxa, hxb] at hr
        rw [hxa] at hc1
        rw [hxb] at hc2
        clear hxa hxb
        first
          | (rw [if_neg (by decide)] at hr
             have Hr2 := Lib.hid hr
             clear hr
             go_wp2_with fail
             go_quiet (fail)
             go_wp2
             go_ret
             exact ⟨by rw [Hr2.out]; simp, Hb2.out.next (below_drewN Hbel.out _) Hb2.out.size⟩)
          | (rw [if_pos rfl] at hr
             have Hr2 := Lib.hid hr
             clear hr
             go_wp2_with fail
             go_quiet (fail)
             go_wp2
             go_roundw
             case rel => exact ⟨k + 1, by omega, by go_num, Hr2.out, below_drewN Hbel.out _⟩
             case measure => simp [intOf]; omega)
    · obtain rfl : k = 145 := by omega
      rw [show firstNot a b (145 - 145) 145 = -1 from rfl] at hr
      subst hr
      go_wp2
      go_ret
      exact ⟨by simp, Hb2.out.next Hbel.out Hb2.out.size⟩
end Go.Proofs.YtjgdeeabejoegaaDoor
