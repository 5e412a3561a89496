/- Walks of PathChecks, ForestNames, HistoryKepts. -/
import Derived.Test.YthhcdibimnifaaaBytes
namespace Go.Proofs.Ythhcdibimnifaaa
open Go.RowKit
set_option linter.unusedVariables false
set_option linter.unusedSimpArgs false

/-- What NameFault and forest.Name answer. -/
def nameFault (a : List UInt8) : Int := if 1 ≤ a.length ∧ a.length ≤ 8 then 0 else 1
theorem nameFault_ok (w : World) (A : Option Addr) (a : List UInt8) (c : Nat) :
    Calls Try.prog 105 #[.slice A a.length c] w fun e w' => e = .returned (.int .i64 (nameFault a)) ∧ w = w' := by
  go_enter Try.func105, Try.ntmps105
  go_wp2_with (go_at_call 114; refine (in_ok _ _ _ _).mono ?_; rintro e w' ⟨rfl, rfl⟩)
  all_goals
    rename_i hq
    simp at hq
    go_ret
    refine ⟨ret_int ?_, rfl⟩
    unfold nameFault
    first | rw [if_pos (by omega)] | rw [if_neg (by omega)]
theorem forestName_ok (w : World) (A : Option Addr) (a : List UInt8) (c : Nat) :
    Calls Try.prog 102 #[.slice A a.length c] w fun e w' => e = .returned (.int .i64 (nameFault a)) ∧ w = w' := by
  by_cases h1 : a.length < 1
  rotate_left
  by_cases h2 : 8 < a.length
  all_goals
    go_enter Try.func102, Try.ntmps102
    go_wp2
    go_ret
    refine ⟨ret_int ?_, rfl⟩
    unfold nameFault
    first | rw [if_pos (by omega)] | rw [if_neg (by omega)]
end Go.Proofs.Ythhcdibimnifaaa
