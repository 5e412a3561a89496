/- Walk: sameBytes of the references. -/
import Derived.Test.YtjgdeeabejoegaaDoorBytes
namespace Go.Proofs.YtjgdeeabejoegaaDoor
open Go.RowKit
set_option linter.unusedVariables false
set_option linter.unusedSimpArgs false

theorem refSameBytes_ok (w : World) (A B : Option Addr) (a b : List UInt8) (c d : Nat) (ha : Bs All w A a) (hb : Bs All w B b) :
    Calls Tryd.prog 65 #[.slice A a.length c, .slice B b.length d] w fun e w' => e = .returned (.bool (a == b)) ∧ w = w' := by
  have h1 := conv_str ha 22 9 5 c Tryd.underlying22 Tryd.underlying5 Tryd.underlying9
  have h2 := conv_str hb 22 9 5 d Tryd.underlying22 Tryd.underlying5 Tryd.underlying9
  clear ha hb
  go_enter Tryd.func65, Tryd.ntmps65
  go_wp2
  go_ret
  exact ⟨rfl, rfl⟩
end Go.Proofs.YtjgdeeabejoegaaDoor
