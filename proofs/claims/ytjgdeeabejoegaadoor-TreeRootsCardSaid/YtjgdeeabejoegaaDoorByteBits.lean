/- The first bit at which two bytes differ. -/
import Derived.Test.YtjgdeeabejoegaaDoorBits
namespace Go.Proofs.YtjgdeeabejoegaaDoor
set_option linter.unusedVariables false
set_option linter.unusedSimpArgs false

def byteFirst (x y : Nat) : Nat := ((List.range 8).find? fun j => bitN x j != bitN y j).getD 8
theorem byte_first : ∀ x < 256, ∀ y < 256, x < y → byteFirst x y < 8 ∧ (bitN x (byteFirst x y) = false ∧ bitN y (byteFirst x y) = true) ∧ (List.range (byteFirst x y)).all (fun j => bitN x j == bitN y j) = true := by decide +kernel
end Go.Proofs.YtjgdeeabejoegaaDoor
