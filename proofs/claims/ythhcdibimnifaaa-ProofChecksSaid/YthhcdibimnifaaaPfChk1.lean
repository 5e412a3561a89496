/- Walks: proof.Check of proofs that are empty, or not in form. -/
import Derived.Test.YthhcdibimnifaaaPfChk0
namespace Go.Proofs.Ythhcdibimnifaaa
open Go.RowKit
set_option linter.unusedVariables false
set_option linter.unusedSimpArgs false

set_option maxRecDepth 100000 in
set_option maxHeartbeats 8000000 in
theorem proofCheck_empty (w : World) (D : Option Addr) (k : List UInt8) (dc : Nat) (A K V : Option Addr) (p : Pf) (n a b : Nat) (hk : Bs All w D k) (ha : Sts All w A p.steps) (hK : Bs All w K p.pair.1) (hV : Bs All w V p.pair.2) (hst : p.steps.length * 40 ≤ 140737488355328) (hl1 : p.pair.1.length ≤ big) (hl2 : p.pair.2.length ≤ big) (hkf : keyFault k = 0) (he : p.empty = true) :
    Calls Try.prog 80 #[.slice D k.length dc, .agg #[.bool true, .slice A p.steps.length n, .slice K p.pair.1.length a, .slice V p.pair.2.length b]] w (RetV w (.int .i64 (mayFault k p))) := by
  have Hk := Lib.hid hk
  have Ha := Lib.hid ha
  have HK := Lib.hid hK
  have HV := Lib.hid hV
  clear hk ha hK hV
  have Hkf := Lib.hid hkf
  clear hkf
  by_cases hs : p.steps.length = 0
  · have Hv := Lib.hid (show mayFault k p = if (decide (p.pair.1.length = 0) && decide (p.pair.2.length = 0)) = true then 0 else 4 by
      unfold mayFault
      rw [if_pos he]
      by_cases h2 : p.pair.1.length = 0 <;> by_cases h3 : p.pair.2.length = 0 <;> simp_all)
    have hs' : decide ((0 : Int) < (p.steps.length : Int)) = false := by simp [hs]
    have hs0 : p.steps = [] := List.eq_nil_of_length_eq_zero hs
    clear hs
    cases hn : (decide (p.pair.1.length = 0) && decide (p.pair.2.length = 0))
    all_goals
      rw [hn] at Hv
      have Hn := Lib.hid hn
      clear hn
      go_enter Try.func80, Try.ntmps80
      go_wp2_with (first
        | (go_at_call 84; refine (pathCheck_ok _ D k dc).mono ?_; rintro e w1 ⟨rfl, rfl⟩; rw [Hkf.out])
        | (go_at_call 146; refine (proofNone_ok _ K V p.pair a b hl1 hl2).mono ?_; rintro e w2 ⟨rfl, hb2⟩; rw [Hn.out]))
      go_ret
      exact ⟨ret_int (by rw [Hv.out]; rfl), (by refine Below.next ?_ hb2 (by first | (simp; done) | omega | (simp; omega)); repeat' (first | exact Below.refl _ _ | assumption | refine Below.drew ?_ | refine below_drewN ?_ _ | refine Below.alloc ?_ (by first | exact Nat.le_refl _ | omega | (simp; done) | (simp; omega)) _))⟩
  · have hv : mayFault k p = 4 := by unfold mayFault; rw [if_pos he, if_neg (by simp [hs])]
    have hs0 : ¬ p.steps = [] := fun h => hs (by rw [h]; rfl)
    have hs1 : 0 < p.steps.length := by omega
    rw [hv]
    clear hv hs
    go_enter Try.func80, Try.ntmps80
    go_wp2_with (go_at_call 84; refine (pathCheck_ok _ D k dc).mono ?_; rintro e w1 ⟨rfl, rfl⟩; rw [Hkf.out])
    go_ret
    exact ⟨rfl, by repeat' (first | exact Below.refl _ _ | assumption | refine Below.drew ?_ | refine below_drewN ?_ _ | refine Below.alloc ?_ (by first | exact Nat.le_refl _ | omega | (simp; done) | (simp; omega)) _)⟩
set_option maxRecDepth 100000 in
set_option maxHeartbeats 8000000 in
theorem proofCheck_bad (w : World) (D : Option Addr) (k : List UInt8) (dc : Nat) (A K V : Option Addr) (p : Pf) (n a b : Nat) (hk : Bs All w D k) (ha : Sts All w A p.steps) (hK : Bs All w K p.pair.1) (hV : Bs All w V p.pair.2) (hst : p.steps.length * 40 ≤ 140737488355328) (hl1 : p.pair.1.length ≤ big) (hl2 : p.pair.2.length ≤ big) (hkf : keyFault k = 0) (he' : p.empty = false) (hp : pairFaultS p.pair ≠ 0) :
    Calls Try.prog 80 #[.slice D k.length dc, .agg #[.bool false, .slice A p.steps.length n, .slice K p.pair.1.length a, .slice V p.pair.2.length b]] w (RetV w (.int .i64 (mayFault k p))) := by
  have Hk := Lib.hid hk
  have Ha := Lib.hid ha
  have HK := Lib.hid hK
  have HV := Lib.hid hV
  clear hk ha hK hV
  have Hkf := Lib.hid hkf
  clear hkf
  have Hpf := Lib.hid (rfl : pairFaultS p.pair = pairFaultS p.pair)
  have hp' : (pairFaultS p.pair != 0) = true := by simpa using hp
  have hv : mayFault k p = 4 := by unfold mayFault; rw [if_neg (by simp [he']), if_pos hp]
  rw [hv]
  clear hp hv
  go_enter Try.func80, Try.ntmps80
  go_wp2_with (first
    | (go_at_call 84; refine (pathCheck_ok _ D k dc).mono ?_; rintro e w1 ⟨rfl, rfl⟩; rw [Hkf.out])
    | (go_at_call 83; (with_reducible refine (treeCheckOne_ok _ _ 39 K V p.pair a b ?hh ?hx ?hy hl1 hl2).mono ?_); (case hh => (have h := box_new (w.alloc (.cells #[.bool false, .slice A p.steps.length n, .slice K p.pair.1.length a, .slice V p.pair.2.length b] 105)) #[.slice K p.pair.1.length a, .slice V p.pair.2.length b] 39; simpa using h)); (case hx => (refine HK.out.bbelow ?_; repeat' (first | exact Below.refl _ _ | assumption | refine Below.drew ?_ | refine below_drewN ?_ _ | refine Below.alloc ?_ (by first | exact Nat.le_refl _ | omega | (simp; done) | (simp; omega)) _))); (case hy => (refine HV.out.bbelow ?_; repeat' (first | exact Below.refl _ _ | assumption | refine Below.drew ?_ | refine below_drewN ?_ _ | refine Below.alloc ?_ (by first | exact Nat.le_refl _ | omega | (simp; done) | (simp; omega)) _))); rintro e w2 ⟨rfl, hb2⟩))
  go_ret
  exact ⟨rfl, (by refine Below.next ?_ hb2 (by first | (simp; done) | omega | (simp; omega)); repeat' (first | exact Below.refl _ _ | assumption | refine Below.drew ?_ | refine below_drewN ?_ _ | refine Below.alloc ?_ (by first | exact Nat.le_refl _ | omega | (simp; done) | (simp; omega)) _))⟩
set_option maxRecDepth 100000 in
set_option maxHeartbeats 8000000 in
theorem proofCheck_key (w : World) (D : Option Addr) (k : List UInt8) (dc : Nat) (A K V : Option Addr) (p : Pf) (n a b : Nat) (hk : Bs All w D k) (ha : Sts All w A p.steps) (hK : Bs All w K p.pair.1) (hV : Bs All w V p.pair.2) (hst : p.steps.length * 40 ≤ 140737488355328) (hl1 : p.pair.1.length ≤ big) (hl2 : p.pair.2.length ≤ big) (hkf : ¬ keyFault k = 0) :
    Calls Try.prog 80 #[.slice D k.length dc, .agg #[.bool p.empty, .slice A p.steps.length n, .slice K p.pair.1.length a, .slice V p.pair.2.length b]] w (RetV w (.int .i64 (proofFaultS k p))) := by
  have Hk := Lib.hid hk
  have Ha := Lib.hid ha
  have HK := Lib.hid hK
  have HV := Lib.hid hV
  clear hk ha hK hV
  have hv : proofFaultS k p = keyFault k := by unfold proofFaultS; rw [if_pos hkf]
  have b1 : (keyFault k != 0) = true := by simpa using hkf
  rw [hv]
  clear hkf hv
  go_enter Try.func80, Try.ntmps80
  go_wp2_with (go_at_call 84; refine (pathCheck_ok _ D k dc).mono ?_; rintro e w1 ⟨rfl, rfl⟩)
  go_ret
  exact ⟨rfl, by repeat' (first | exact Below.refl _ _ | assumption | refine Below.drew ?_ | refine below_drewN ?_ _ | refine Below.alloc ?_ (by first | exact Nat.le_refl _ | omega | (simp; done) | (simp; omega)) _)⟩
end Go.Proofs.Ythhcdibimnifaaa
