/- Walk: sameBytes of the references. -/
import Derived.Test.YthhcdibimnifaaaBytes
namespace Go.Proofs.Ythhcdibimnifaaa
open Go.RowKit
set_option linter.unusedVariables false
set_option linter.unusedSimpArgs false

theorem refSameBytes_ok (w : World) (A B : Option Addr) (a b : List UInt8) (c d : Nat) (ha : Bs All w A a) (hb : Bs All w B b) :
    Calls Try.prog 89 #[.slice A a.length c, .slice B b.length d] w fun e w' => e = .returned (.bool (a == b)) ∧ w = w' := by
  have h1 := conv_str ha 23 9 5 c Try.underlying23 Try.underlying5 Try.underlying9
  have h2 := conv_str hb 23 9 5 d Try.underlying23 Try.underlying5 Try.underlying9
  clear ha hb
  go_enter Try.func89, Try.ntmps89
  go_wp2
  go_ret
  exact ⟨rfl, rfl⟩
end Go.Proofs.Ythhcdibimnifaaa
