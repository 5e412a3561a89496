/- LnC: The tables that lines read, as the walks' facts. From the form's reading of arguments to the words of Core: rows of acts. The conditions of each are in its words. -/
import Derived.Test.YtjidppcfjkjjoaaDoorRows
import Derived.Lib.LaidTab
import Derived.LaidSub
import Derived.Test.YtjidppcfjkjjoaaDoorKLnA
import Derived.Test.YtjidppcfjkjjoaaDoorKOpenA
namespace Go.Proofs.YtjidppcfjkjjoaaDoor
open Go.RowKit
set_option linter.unusedVariables false
set_option linter.unusedSimpArgs false

/-- An array of texts that reads as the table holds the table's texts, cell for cell. -/
theorem cells_of_texts {H : Type} {enc : TypeId × Value → H} {P : Program} {w : World} {base : Nat} {sp : Nat → Bool} {held : Bool} {fuel : Nat} {t e : TypeId} {n : Nat} {cs : List Value} {zs : List (List UInt8)} {p : List MemPlace}
    (ht : P.underlying t = some (.array n e)) (he : P.underlying e = some .string) (hce : P.cellsOf e = 1) (hct : P.cellsOf t = n)
    (h : DataW.trod enc P w base sp held fuel t cs = some (.agg (zs.map fun z => .lit (.string z)), p)) : cs = zs.map fun z => Value.string ⟨z.toArray⟩ := by
  cases fuel with
  | zero => simp [DataW.trod] at h
  | succ fuel =>
    simp only [DataW.trod, ht, hce, hct, Nat.mul_one] at h
    split at h
    · rename_i hl
      obtain ⟨xs, hm, hx⟩ := Option.map_eq_some_iff.1 h
      have hxs : xs.map (·.1) = zs.map fun z => (DataW.lit (.string z) : DataW H) := by
        have := congrArg Prod.fst hx
        simpa using this
      have hxl : xs.length = n := by simpa using Lib.mapM_length hm
      have hzl : zs.length = n := by
        have := congrArg List.length hxs
        simp at this
        omega
      apply List.ext_getElem?
      intro i
      by_cases hi : i < n
      · obtain ⟨b, hb, hf⟩ := Lib.mapM_at hm i i (by simp [hi])
        obtain ⟨z, hc, rfl, _⟩ := DataW.trod_string he hf
        have h1 : cs[i]? = some (.string z) := by
          have := congrArg (·[0]?) hc
          simpa [List.getElem?_take, List.getElem?_drop] using this
        have h2 : (xs.map (·.1))[i]? = some (DataW.lit (.string z.data.toList) : DataW H) := by simp [hb]
        rw [hxs] at h2
        simp only [List.getElem?_map, Option.map_eq_some_iff, DataW.lit.injEq, Lit.string.injEq] at h2
        obtain ⟨z', hz', hz2⟩ := h2
        have hz3 : z = ⟨z'.toArray⟩ := by rw [hz2]
        rw [h1, List.getElem?_map, hz', hz3]
        rfl
      · rw [List.getElem?_eq_none (by omega), List.getElem?_eq_none (by simp; omega)]
    · cases h
theorem texts_of_head {P : Program} {W : World} {name : String} {zs : List (List UInt8)} {rest : List (String × DataW Unit)} {g : Nat} {t e : TypeId} {n : Nat}
    (hg : P.globalNamed name = some g) (hty : (P.globals[g]?).map (·.type) = some t) (ht : P.underlying t = some (.array n e)) (he : P.underlying e = some .string) (hce : P.cellsOf e = 1) (hct : P.cellsOf t = n)
    (h : laidMet P ((name, .agg (zs.map fun z => .lit (.string z))) :: rest) W) : ∀ i (hi : i < zs.length), W.cell? ⟨g, i, none⟩ = some (.string ⟨(zs[i]).toArray⟩) := by
  obtain ⟨ps, ⟨g', t', cs, fuel, p, q, hg', ht', hvar, hd, _, _⟩, _⟩ := h
  obtain rfl := Option.some.inj (hg.symm.trans hg')
  obtain rfl := Option.some.inj (hty.symm.trans ht')
  have e1 := cells_of_texts ht he hce hct hd
  have hvar2 : W.var? P name = some (zs.map fun z => Value.string ⟨z.toArray⟩).toArray := by rw [hvar, ← e1]
  intro i hi
  have := World.var?_cell hg hvar2 i
  simpa [hi] using this
theorem size_of_cell {w : World} {a : Addr} {v : Value} (h : w.cell? a = some v) : a.block < w.heap.size := by
  rcases Nat.lt_or_ge a.block w.heap.size with h' | h'
  · exact h'
  · simp [World.cell?, Array.getElem?_eq_none h'] at h
theorem lnTabs_of {W : World} (h : laidMet Tryd.prog [("math/bits.deBruijn32tab", Rows.laid_math_bits_deBruijn32tab), ("math/bits.deBruijn64tab", Rows.laid_math_bits_deBruijn64tab), ("internal/strconv.uint64pow10", Rows.laid_internal_strconv_uint64pow10), ("canopy/lines.words", Rows.laid_canopy_lines_words)] W) : LnTabs W := by
  have h1 : laidMet Tryd.prog [("internal/strconv.uint64pow10", Rows.laid_internal_strconv_uint64pow10)] W := by
    have := laidMet.filter (fun x => x.1 == "internal/strconv.uint64pow10") h
    simpa using this
  have h2 : laidMet Tryd.prog [("canopy/lines.words", Rows.laid_canopy_lines_words)] W := by
    have := laidMet.filter (fun x => x.1 == "canopy/lines.words") h
    simpa using this
  have g2 := texts_of_head (zs := [[], [97, 115, 107], [115, 121, 110, 99], [99, 114, 97, 115, 104], [115, 116, 97, 114, 116]]) (g := 0) (t := 52) (e := 9) (n := 5) (by kernel_rfl) (by kernel_rfl) Tryd.underlying52 Tryd.underlying9 (by kernel_rfl) (by kernel_rfl) h2
  have hw : ∀ k, k < 5 → W.cell? ⟨0, k, none⟩ = some (.string ⟨(wordS k).toArray⟩) := fun k hk => by
    rw [g2 k hk]
    match k, hk with
    | 0, _ => rfl
    | 1, _ => rfl
    | 2, _ => rfl
    | 3, _ => rfl
    | 4, _ => rfl
  exact ⟨hw, size_of_cell (hw 0 (by omega)), Lib.tabIs_of_head (g := 4) (t := 95) (e := 80) (n := 20) (by kernel_rfl) (by kernel_rfl) Tryd.underlying95 Tryd.underlying80 (by kernel_rfl) (by kernel_rfl) h1⟩
end Go.Proofs.YtjidppcfjkjjoaaDoor
namespace Go.Proofs.YtjidppcfjkjjoaaDoor
open Go.RowKit Go.ChangeShapes Go.WideShapes Go.ChangeAt Go.Deep
set_option linter.unusedVariables false
set_option linter.unusedSimpArgs false

theorem opens_intL (w : World) {H : Type} {enc : TypeId × Value → H} {base : Nat} {spare : Nat → Bool} {held : Bool} {fuel : Nat} {cs : List Value} {x : DataW H × List MemPlace}
    (h : DataW.trod enc Tryd.prog w base spare held fuel 3 cs = some x) : ∃ n, cs = [.int .i64 n] ∧ -9223372036854775808 ≤ n ∧ n ≤ 9223372036854775807 := by
  obtain ⟨n, rfl, _, hw⟩ := DataW.trod_int Tryd.underlying3 h
  exact ⟨n, rfl, bounds_i64 hw⟩
set_option maxRecDepth 100000 in
theorem opens_ln (w : World) : Opens LeR w 34 := by
  intro H enc base spare held fuel cs x h hx
  obtain ⟨xs, n, _, rfl, hcl, hxl, hf⟩ := DataW.trod_struct Tryd.underlying34 h
  have hC : Tryd.prog.cellsOf 34 = 4 := by kernel_rfl
  have hCb : Tryd.prog.cellsOf 32 = 1 := by kernel_rfl
  have hCi : Tryd.prog.cellsOf 3 = 1 := by kernel_rfl
  rw [hC] at hcl
  match xs, hxl, cs, hcl with
  | [y0, y1, y2, y3], _, [c0, c1, c2, c3], _ =>
    have f0 : DataW.trod enc Tryd.prog w base spare held n 3 [c0] = some y0 := by have h := hf 0 _ rfl; simpa [hCi] using h
    have f1 : DataW.trod enc Tryd.prog w base spare held n 3 [c1] = some y1 := by have h := hf 1 _ rfl; simpa [hCi] using h
    have f2 : DataW.trod enc Tryd.prog w base spare held n 3 [c2] = some y2 := by have h := hf 2 _ rfl; simpa [hCi] using h
    have f3 : DataW.trod enc Tryd.prog w base spare held n 32 [c3] = some y3 := by have h := hf 3 _ rfl; simpa [hCb] using h
    simp only [DataW.weights, Tryd.underlying34, List.map_cons, List.map_nil, DataW.weightsEach, List.all_append, Bool.and_eq_true] at hx
    obtain ⟨m0, g0, _⟩ := opens_intL w f0
    obtain ⟨m1, g1, _⟩ := opens_intL w f1
    obtain ⟨m2, g2, _⟩ := opens_intL w f2
    obtain ⟨B, m, d, g3, h2, h3⟩ := opens_bytes w f3 hx.2.2.2.1
    simp at g0 g1 g2 g3
    subst g0 g1 g2 g3
    exact ⟨⟨m0, m1, m2, m⟩, B, d, rfl, h2, h3⟩
theorem opens_lns (w : World) {H : Type} {enc : TypeId × Value → H} {base : Nat} {spare : Nat → Bool} {held : Bool} {fuel : Nat} {cs : List Value} {x : DataW H × List MemPlace}
    (h : DataW.trod enc Tryd.prog w base spare held fuel 22 cs = some x) (hx : (x.1.weights Tryd.prog 22).all (· ≤ reachBytes) = true) :
    ∃ A l c, cs = [.slice A (l : List Le).length c] ∧ Les All w A l ∧ l.length * 48 ≤ 140737488355328 := by
  obtain ⟨A, l, c, h1, h2, h3⟩ := opens_slice (size := 4) Tryd.underlying22 (by kernel_rfl) (by decide) (opens_ln w) h hx
  have hb : Tryd.prog.bytesOf 34 = 48 := by kernel_rfl
  rw [hb] at h3
  exact ⟨A, l, c, h1, h2, by simp only [reachBytes] at *; omega⟩
end Go.Proofs.YtjidppcfjkjjoaaDoor
