/- Walks of PathChecks, ForestNames, HistoryKepts. -/
import Derived.Test.YtddppmhpdgecgaaDoorBytes
namespace Go.Proofs.YtddppmhpdgecgaaDoor
open Go.RowKit
set_option linter.unusedVariables false
set_option linter.unusedSimpArgs false

/-- What NameFault and forest.Name answer. -/
def nameFault (a : List UInt8) : Int := if 1 ≤ a.length ∧ a.length ≤ 8 then 0 else 1
theorem nameFault_ok (w : World) (A : Option Addr) (a : List UInt8) (c : Nat) :
    Calls Tryd.prog 81 #[.slice A a.length c] w fun e w' => e = .returned (.int .i64 (nameFault a)) ∧ w = w' := by
  go_enter Tryd.func81, Tryd.ntmps81
  go_wp2_with (go_at_call 79; refine (in_ok _ _ _ _).mono ?_; rintro e w' ⟨rfl, rfl⟩)
  all_goals
    rename_i hq
    simp at hq
    go_ret
    refine ⟨ret_int ?_, rfl⟩
    unfold nameFault
    first | rw [if_pos (by omega)] | rw [if_neg (by omega)]
theorem forestName_ok (w : World) (A : Option Addr) (a : List UInt8) (c : Nat) :
    Calls Tryd.prog 77 #[.slice A a.length c] w fun e w' => e = .returned (.int .i64 (nameFault a)) ∧ w = w' := by
  by_cases h1 : a.length < 1
  rotate_left
  by_cases h2 : 8 < a.length
  all_goals
    go_enter Tryd.func77, Tryd.ntmps77
    go_wp2
    go_ret
    refine ⟨ret_int ?_, rfl⟩
    unfold nameFault
    first | rw [if_pos (by omega)] | rw [if_neg (by omega)]
end Go.Proofs.YtddppmhpdgecgaaDoor
