/- TabsD: The digest's tables that a row lists, as the walks' facts. The conditions of each are in its words. -/
import Derived.Test.YteacjkihjeiafaaDoorRows
import Derived.Lib.LaidTab
import Derived.LaidSub
import Derived.Test.YteacjkihjeiafaaDoorKKec
namespace Go.Proofs.YteacjkihjeiafaaDoor
open Go.RowKit
set_option linter.unusedVariables false
set_option linter.unusedSimpArgs false

def roundsZ : List Int := roundsT.map fun (n : Nat) => (n : Int)
def goesZ : List Int := goesT.map fun (n : Nat) => (n : Int)
def turnsZ : List Int := turnsT.map fun (n : Nat) => (n : Int)
theorem tabsAt_of {W : World} (h : laidMet Tryd.prog [("canopy/digest.rounds", Rows.laid_canopy_digest_rounds), ("canopy/digest.goes", Rows.laid_canopy_digest_goes), ("canopy/digest.turns", Rows.laid_canopy_digest_turns)] W) : TabsAt W := by
  have g1 : Lib.TabIs Tryd.prog W "canopy/digest.rounds" .u64 roundsZ :=
    Lib.tabIs_of_head (g := 2) (t := 155) (e := 152) (n := 24) (by kernel_rfl) (by kernel_rfl) Tryd.underlying155 Tryd.underlying152 (by kernel_rfl) (by kernel_rfl) h
  have h2 : laidMet Tryd.prog [("canopy/digest.goes", Rows.laid_canopy_digest_goes)] W := by
    have := laidMet.filter (fun x => x.1 == "canopy/digest.goes") h
    simpa using this
  have g2 : Lib.TabIs Tryd.prog W "canopy/digest.goes" .i64 goesZ :=
    Lib.tabIs_of_head (g := 0) (t := 170) (e := 3) (n := 24) (by kernel_rfl) (by kernel_rfl) Tryd.underlying170 Tryd.underlying3 (by kernel_rfl) (by kernel_rfl) h2
  have h3 : laidMet Tryd.prog [("canopy/digest.turns", Rows.laid_canopy_digest_turns)] W := by
    have := laidMet.filter (fun x => x.1 == "canopy/digest.turns") h
    simpa using this
  have g3 : Lib.TabIs Tryd.prog W "canopy/digest.turns" .i64 turnsZ :=
    Lib.tabIs_of_head (g := 1) (t := 170) (e := 3) (n := 24) (by kernel_rfl) (by kernel_rfl) Tryd.underlying170 Tryd.underlying3 (by kernel_rfl) (by kernel_rfl) h3
  refine ⟨fun k hk => ?_, fun j v hv => ?_, fun k hk => ?_⟩
  · rw [g1.cell (by kernel_rfl) k hk]
    have : ∀ k, k < 24 → roundsZ.getD k 0 = uv (rcS k) := by decide
    rw [this k hk]
  · have hj : j < 24 := by
      have := (List.getElem?_eq_some_iff.1 hv).1
      simpa [goesT] using this
    rw [Nat.zero_add, g2.cell (by kernel_rfl) j hj]
    have : ∀ j, j < 24 → (goesT.map fun (n : Nat) => Value.int .i64 (n : Int))[j]? = some (.int .i64 (goesZ.getD j 0)) := by
      intro j hj
      unfold goesZ
      rw [List.getElem?_map, List.getD_eq_getElem?_getD, List.getElem?_map, List.getElem?_eq_getElem (show j < goesT.length from hj)]
      rfl
    rw [← hv, this j hj]
  · rw [g3.cell (by kernel_rfl) k hk]
    have : ∀ k, k < 24 → turnsZ.getD k 0 = ((tnS k : Nat) : Int) := by decide
    rw [this k hk]
end Go.Proofs.YteacjkihjeiafaaDoor
