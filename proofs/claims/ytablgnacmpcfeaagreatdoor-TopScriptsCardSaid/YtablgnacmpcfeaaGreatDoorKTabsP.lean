/- TabsP: The digest's tables that a row lists, as the walks' facts. Tables that a row lists, as the walks' facts. The four tables that a row of the whole lists, as the walks' facts. The twelve variables that TopScripts' row lists, as the walks' facts. The conditions of each are in its words. -/
import Derived.Test.YtablgnacmpcfeaaGreatDoorRows
import Derived.Lib.LaidTab
import Derived.LaidSub
import Derived.Test.YtablgnacmpcfeaaGreatDoorKKec
import Derived.Test.YtablgnacmpcfeaaGreatDoorKWire
import Derived.Test.YtablgnacmpcfeaaGreatDoorKLnF
namespace Go.Proofs.YtablgnacmpcfeaaGreatDoor
open Go.RowKit
set_option linter.unusedVariables false
set_option linter.unusedSimpArgs false
def roundsZ:List Int:=roundsT.map fun (n:Nat)=>(n:Int)
def goesZ:List Int:=goesT.map fun (n:Nat)=>(n:Int)
def turnsZ:List Int:=turnsT.map fun (n:Nat)=>(n:Int)
theorem cX7 {W : World} (h : laidMet Tryz.prog [("canopy/digest.rounds", Rows.laid_canopy_digest_rounds), ("canopy/digest.goes", Rows.laid_canopy_digest_goes), ("canopy/digest.turns", Rows.laid_canopy_digest_turns)] W) : bD W := by
  have g1 : Lib.TabIs Tryz.prog W "canopy/digest.rounds" .u64 roundsZ :=
    Lib.tabIs_of_head (g := 8) (t := 311) (e := 292) (n := 24) ZG0 ZG0 Tryz.underlying311 Tryz.underlying292 ZG0 ZG0 h
  have h2 : laidMet Tryz.prog [("canopy/digest.goes", Rows.laid_canopy_digest_goes)] W := by
    have := laidMet.filter (fun x => x.1 == "canopy/digest.goes") h
    simpa using this
  have g2 : Lib.TabIs Tryz.prog W "canopy/digest.goes" .i64 goesZ :=
    Lib.tabIs_of_head (g := 6) (t := 332) (e := 3) (n := 24) ZG0 ZG0 Tryz.underlying332 Tryz.underlying3 ZG0 ZG0 h2
  have h3 : laidMet Tryz.prog [("canopy/digest.turns", Rows.laid_canopy_digest_turns)] W := by
    have := laidMet.filter (fun x => x.1 == "canopy/digest.turns") h
    simpa using this
  have g3 : Lib.TabIs Tryz.prog W "canopy/digest.turns" .i64 turnsZ :=
    Lib.tabIs_of_head (g := 7) (t := 332) (e := 3) (n := 24) ZG0 ZG0 Tryz.underlying332 Tryz.underlying3 ZG0 ZG0 h3
  refine ⟨fun k hk => ?_, fun j v hv => ?_, fun k hk => ?_⟩
  · rw [g1.cell ZG0 k hk]
    have : ∀ k, k < 24 → roundsZ.getD k 0 = uv (rcS k) := by decide
    rw [this k hk]
  · have hj : j < 24 := by
      have := (List.getElem?_eq_some_iff.1 hv).1
      simpa [goesT] using this
    rw [Nat.zero_add, g2.cell ZG0 j hj]
    have : ∀ j, j < 24 → (goesT.map fun (n : Nat) => Value.int .i64 (n : Int))[j]? = some (.int .i64 (goesZ.getD j 0)) := by
      intro j hj
      unfold goesZ
      rw [List.getElem?_map, List.getD_eq_getElem?_getD, List.getElem?_map, List.getElem?_eq_getElem (show j < goesT.length from hj)]
      rfl
    rw [← hv, this j hj]
  · rw [g3.cell ZG0 k hk]
    have : ∀ k, k < 24 → turnsZ.getD k 0 = ((tnS k : Nat) : Int) := by decide
    rw [this k hk]
def hasZ:List Int:=[0,0,3,7,11,3,0,0,3]
theorem hasAt_of {W : World} (h : laidMet Tryz.prog [("canopy/wire.has", Rows.laid_canopy_wire_has)] W) : bL W := by
  have h1 : Lib.TabIs Tryz.prog W "canopy/wire.has" .i64 hasZ :=
    Lib.tabIs_of_head (rest := []) (g := 0) (t := 135) (e := 3) (n := 9) ZG0 ZG0 Tryz.underlying135 Tryz.underlying3 ZG0 ZG0 h
  intro k hk
  rw [h1.cell ZG0 k hk]
  have : ∀ k, k < 9 → hasZ.getD k 0 = ((bO k : Nat) : Int) := by decide
  rw [this k hk]
theorem cJ6 {a b c d : DataW Unit} : ([("canopy/digest.rounds", a), ("canopy/digest.goes", b), ("canopy/digest.turns", c), ("canopy/wire.has", d)].filter fun x => x.1 != "canopy/wire.has") = [("canopy/digest.rounds", a), ("canopy/digest.goes", b), ("canopy/digest.turns", c)] := by kernel_rfl
theorem cX8 {a b c d : DataW Unit} : ([("canopy/digest.rounds", a), ("canopy/digest.goes", b), ("canopy/digest.turns", c), ("canopy/wire.has", d)].filter fun x => x.1 == "canopy/wire.has") = [("canopy/wire.has", d)] := by kernel_rfl
theorem cQ0 {W : World} (h : laidMet Tryz.prog [("canopy/digest.rounds", Rows.laid_canopy_digest_rounds), ("canopy/digest.goes", Rows.laid_canopy_digest_goes), ("canopy/digest.turns", Rows.laid_canopy_digest_turns), ("canopy/wire.has", Rows.laid_canopy_wire_has)] W) : bD W := by
  have h2 := laidMet.filter (fun x => x.1 != "canopy/wire.has") h
  rw [cJ6] at h2
  exact cX7 h2
theorem cX9 {W : World} (h : laidMet Tryz.prog [("canopy/digest.rounds", Rows.laid_canopy_digest_rounds), ("canopy/digest.goes", Rows.laid_canopy_digest_goes), ("canopy/digest.turns", Rows.laid_canopy_digest_turns), ("canopy/wire.has", Rows.laid_canopy_wire_has)] W) : bL W := by
  have h2 := laidMet.filter (fun x => x.1 == "canopy/wire.has") h
  rw [cX8] at h2
  exact hasAt_of h2
theorem eW8 {a b c d e f g h i j k l : DataW Unit} : ([("math/bits.deBruijn32tab", a), ("math/bits.deBruijn64tab", b), ("internal/strconv.uint64pow10", c), ("unicode/utf8.acceptRanges", d), ("strconv.ErrRange", e), ("strconv.ErrSyntax", f), ("canopy/digest.rounds", g), ("canopy/digest.goes", h), ("canopy/digest.turns", i), ("canopy/wire.has", j), ("canopy/lines.words", k), ("unicode/utf8.first", l)].filter fun x => x.1 == "canopy/digest.rounds" || x.1 == "canopy/digest.goes" || x.1 == "canopy/digest.turns" || x.1 == "canopy/wire.has") = [("canopy/digest.rounds", g), ("canopy/digest.goes", h), ("canopy/digest.turns", i), ("canopy/wire.has", j)] := by kernel_rfl
theorem eW9 {a b c d e f g h i j k l : DataW Unit} : ([("math/bits.deBruijn32tab", a), ("math/bits.deBruijn64tab", b), ("internal/strconv.uint64pow10", c), ("unicode/utf8.acceptRanges", d), ("strconv.ErrRange", e), ("strconv.ErrSyntax", f), ("canopy/digest.rounds", g), ("canopy/digest.goes", h), ("canopy/digest.turns", i), ("canopy/wire.has", j), ("canopy/lines.words", k), ("unicode/utf8.first", l)].filter fun x => !(x.1 == "canopy/digest.rounds" || x.1 == "canopy/digest.goes" || x.1 == "canopy/digest.turns" || x.1 == "canopy/wire.has")) = [("math/bits.deBruijn32tab", a), ("math/bits.deBruijn64tab", b), ("internal/strconv.uint64pow10", c), ("unicode/utf8.acceptRanges", d), ("strconv.ErrRange", e), ("strconv.ErrSyntax", f), ("canopy/lines.words", k), ("unicode/utf8.first", l)] := by kernel_rfl
theorem eX0 {W : World} (h : laidMet Tryz.prog [("math/bits.deBruijn32tab", Rows.laid_math_bits_deBruijn32tab), ("math/bits.deBruijn64tab", Rows.laid_math_bits_deBruijn64tab), ("internal/strconv.uint64pow10", Rows.laid_internal_strconv_uint64pow10), ("unicode/utf8.acceptRanges", Rows.laid_unicode_utf8_acceptRanges), ("strconv.ErrRange", Rows.laid_strconv_ErrRange), ("strconv.ErrSyntax", Rows.laid_strconv_ErrSyntax), ("canopy/digest.rounds", Rows.laid_canopy_digest_rounds), ("canopy/digest.goes", Rows.laid_canopy_digest_goes), ("canopy/digest.turns", Rows.laid_canopy_digest_turns), ("canopy/wire.has", Rows.laid_canopy_wire_has), ("canopy/lines.words", Rows.laid_canopy_lines_words), ("unicode/utf8.first", Rows.laid_unicode_utf8_first)] W) (hs : W.ShapedOpen Tryz.prog) : bD W ∧ bL W ∧ eB6 W := by
  have h1 := laidMet.filter (fun x => x.1 == "canopy/digest.rounds" || x.1 == "canopy/digest.goes" || x.1 == "canopy/digest.turns" || x.1 == "canopy/wire.has") h
  have h2 := laidMet.filter (fun x => !(x.1 == "canopy/digest.rounds" || x.1 == "canopy/digest.goes" || x.1 == "canopy/digest.turns" || x.1 == "canopy/wire.has")) h
  rw [eW8] at h1
  rw [eW9] at h2
  exact ⟨cQ0 h1, cX9 h1, rdTabs_of h2 hs⟩
end Go.Proofs.YtablgnacmpcfeaaGreatDoor
