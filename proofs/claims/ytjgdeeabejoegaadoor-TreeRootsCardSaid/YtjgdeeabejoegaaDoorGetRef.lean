/- Walks: GetOf of the references. -/
import Derived.Test.YtjgdeeabejoegaaDoorGet
namespace Go.Proofs.YtjgdeeabejoegaaDoor
open Go.RowKit
set_option linter.unusedVariables false
set_option linter.unusedSimpArgs false

def pkFault (l : List Pr) (k : List UInt8) : Int := if pairsFaultS l ≠ 0 then pairsFaultS l else keyFault k
set_option maxRecDepth 100000 in
set_option maxHeartbeats 400000 in
theorem pairsAndKey_ok (w : World) (A : Option Addr) (l : List Pr) (c : Nat) (K : Option Addr) (k : List UInt8) (c1 : Nat) (ha : Ps All w A l) :
    Calls Tryd.prog 70 #[.slice A l.length c, .slice K k.length c1] w (RetV w (.int .i64 (pkFault l k))) := by
  have Ha := Lib.hid ha
  clear ha
  by_cases h1 : pairsFaultS l = 0
  · have b1 : (pairsFaultS l == 0) = true := by simp [h1]
    have Hv := Lib.hid (show pkFault l k = keyFault k by simp [pkFault, h1])
    clear h1
    go_enter Tryd.func70, Tryd.ntmps70
    go_wp2_with (first
      | (go_at_call 49; refine (pairsFault_ok _ A l c Ha.out).mono ?_; rintro e w1 ⟨rfl, hb1⟩)
      | (go_at_call 86; refine (keyFault_ok _ K k c1).mono ?_; rintro e w2 ⟨rfl, rfl⟩))
    go_ret
    exact ⟨ret_int Hv.out.symm, hb1⟩
  · have b1 : (pairsFaultS l == 0) = false := by simp [h1]
    have Hv := Lib.hid (show pkFault l k = pairsFaultS l by simp [pkFault, h1])
    clear h1
    go_enter Tryd.func70, Tryd.ntmps70
    go_wp2_with (go_at_call 49; refine (pairsFault_ok _ A l c Ha.out).mono ?_; rintro e w1 ⟨rfl, hb1⟩)
    go_ret
    exact ⟨ret_int Hv.out.symm, hb1⟩

theorem getS_bad {l : List Pr} {k : List UInt8} (h : pkFault l k ≠ 0) : getS l k = ((false, []), pkFault l k) := by
  unfold pkFault at *
  by_cases h1 : pairsFaultS l = 0
  · rw [if_neg (by simpa using h1)] at h ⊢
    exact getS_key h1 h
  · rw [if_pos h1] at h ⊢
    exact getS_pairs h1
theorem pk_fine {l : List Pr} {k : List UInt8} (h : pkFault l k = 0) : pairsFaultS l = 0 ∧ keyFault k = 0 := by
  unfold pkFault at h
  split at h
  · rename_i h1; exact absurd h h1
  · rename_i h1; exact ⟨by simpa using h1, h⟩
theorem findVal_next {l : List Pr} {k : List UInt8} {m : Nat} (hm : m < l.length) (h : (l[m].1 == k) = false) : findVal (l.drop m) k = findVal (l.drop (m + 1)) k := by
  rw [List.drop_eq_getElem_cons hm]
  simp only [findVal, List.find?_cons, h]
theorem findVal_here {l : List Pr} {k : List UInt8} {m : Nat} (hm : m < l.length) (h : (l[m].1 == k) = true) : findVal (l.drop m) k = some l[m].2 := by
  rw [List.drop_eq_getElem_cons hm]
  simp only [findVal, List.find?_cons, h, Option.map_some]

set_option maxRecDepth 100000 in
set_option maxHeartbeats 400000 in
theorem sameFinding_ok (w : World) (A B : Option Addr) (f : Finding) (c d : Nat) (ha : Bs All w A f.2) (hb : Bs All w B f.2) :
    Calls Tryd.prog 35 #[.agg #[.bool f.1, .slice A f.2.length c], .agg #[.bool f.1, .slice B f.2.length d]] w (RetV w (.bool true)) := by
  have Ha := Lib.hid ha
  have Hb := Lib.hid hb
  clear ha hb
  go_enter Tryd.func35, Tryd.ntmps35
  go_wp2_with (go_at_call 21; refine (sameBytes_ok _ A B f.2 f.2 c d (Ha.out.bbelow ?_) (Hb.out.bbelow ?_)).mono ?_; (repeat' (first | exact Below.refl _ _ | assumption | refine Below.drew ?_ | refine below_drewN ?_ _ | refine Below.alloc ?_ (by first | exact Nat.le_refl _ | omega | (simp; done) | (simp; omega)) _)); (repeat' (first | exact Below.refl _ _ | assumption | refine Below.drew ?_ | refine below_drewN ?_ _ | refine Below.alloc ?_ (by first | exact Nat.le_refl _ | omega | (simp; done) | (simp; omega)) _)); rintro e w2 ⟨rfl, rfl⟩)
  go_ret
  refine ⟨by simp, ?_⟩
  repeat' (first | exact Below.refl _ _ | assumption | refine Below.drew ?_ | refine below_drewN ?_ _ | refine Below.alloc ?_ (by first | exact Nat.le_refl _ | omega | (simp; done) | (simp; omega)) _)

end Go.Proofs.YtjgdeeabejoegaaDoor
