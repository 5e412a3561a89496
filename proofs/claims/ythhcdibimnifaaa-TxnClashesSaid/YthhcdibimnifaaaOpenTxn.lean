/- From the form's reading of arguments to the words of Core: reads and transactions. -/
import Derived.Test.YthhcdibimnifaaaOpenCm
import Derived.Test.YthhcdibimnifaaaOpenTen
import Derived.Test.YthhcdibimnifaaaTxn
namespace Go.Proofs.Ythhcdibimnifaaa
open Go.RowKit Go.ChangeShapes Go.WideShapes Go.ChangeAt Go.Deep
set_option linter.unusedVariables false
set_option linter.unusedSimpArgs false

set_option maxRecDepth 100000 in
theorem opens_rd (w : World) : Opens WrR w 88 := by
  intro H enc base spare held fuel cs x h hx
  obtain ⟨xs, n, _, rfl, hcl, hxl, hf⟩ := DataW.trod_struct Try.underlying88 h
  have hC : Try.prog.cellsOf 88 = 4 := by kernel_rfl
  have hCb : Try.prog.cellsOf 23 = 1 := by kernel_rfl
  have hCo : Try.prog.cellsOf 4 = 1 := by kernel_rfl
  rw [hC] at hcl
  match xs, hxl, cs, hcl with
  | [y0, y1, y2, y3], _, [c0, c1, c2, c3], _ =>
    have f0 : DataW.trod enc Try.prog w base spare held n 23 [c0] = some y0 := by have h := hf 0 _ rfl; simpa [hCb] using h
    have f1 : DataW.trod enc Try.prog w base spare held n 23 [c1] = some y1 := by have h := hf 1 _ rfl; simpa [hCb] using h
    have f2 : DataW.trod enc Try.prog w base spare held n 4 [c2] = some y2 := by have h := hf 2 _ rfl; simpa [hCb, hCo] using h
    have f3 : DataW.trod enc Try.prog w base spare held n 23 [c3] = some y3 := by have h := hf 3 _ rfl; simpa [hCb, hCo] using h
    simp only [DataW.weights, Try.underlying88, List.map_cons, List.map_nil, DataW.weightsEach, List.all_append, Bool.and_eq_true] at hx
    obtain ⟨A, a, ca, g0, h1, h2⟩ := opens_bytes w f0 hx.1
    obtain ⟨B, b, cb, g1, h3, h4⟩ := opens_bytes w f1 hx.2.1
    obtain ⟨o, g2⟩ := opens_bool w f2
    obtain ⟨C, c, cc, g3, h5, h6⟩ := opens_bytes w f3 hx.2.2.2.1
    simp at g0 g1 g2 g3
    subst g0 g1 g2 g3
    exact ⟨⟨a, b, o, c⟩, A, ca, B, cb, C, cc, rfl, h1, h3, h5, h2, h4, h6⟩
theorem opens_reads (w : World) {H : Type} {enc : TypeId × Value → H} {base : Nat} {spare : Nat → Bool} {held : Bool} {fuel : Nat} {cs : List Value} {x : DataW H × List MemPlace}
    (h : DataW.trod enc Try.prog w base spare held fuel 77 cs = some x) (hx : (x.1.weights Try.prog 77).all (· ≤ reachBytes) = true) :
    ∃ A l c, cs = [.slice A (l : List Wr).length c] ∧ Ws All w A l ∧ l.length * 80 ≤ 140737488355328 := by
  obtain ⟨A, l, c, h1, h2, h3⟩ := opens_slice (size := 4) Try.underlying77 (by kernel_rfl) (by decide) (opens_rd w) h hx
  have hb : Try.prog.bytesOf 88 = 80 := by kernel_rfl
  rw [hb] at h3
  exact ⟨A, l, c, h1, h2, by simp only [reachBytes] at *; omega⟩
theorem opens_write (w : World) : Opens WrR w 94 := opens_wr w
theorem opens_read (w : World) : Opens WrR w 88 := opens_rd w
set_option maxRecDepth 100000 in
theorem opens_txn (w : World) : Opens TxR w 79 := by
  intro H enc base spare held fuel cs x h hx
  obtain ⟨xs, n, _, rfl, hcl, hxl, hf⟩ := DataW.trod_struct Try.underlying79 h
  have hC : Try.prog.cellsOf 79 = 3 := by kernel_rfl
  have hCb : Try.prog.cellsOf 51 = 1 := by kernel_rfl
  have hCr : Try.prog.cellsOf 77 = 1 := by kernel_rfl
  have hCi : Try.prog.cellsOf 3 = 1 := by kernel_rfl
  rw [hC] at hcl
  match xs, hxl, cs, hcl with
  | [y0, y1, y2], _, [c0, c1, c2], _ =>
    have f0 : DataW.trod enc Try.prog w base spare held n 3 [c0] = some y0 := by have h := hf 0 _ rfl; simpa [hCi] using h
    have f1 : DataW.trod enc Try.prog w base spare held n 77 [c1] = some y1 := by have h := hf 1 _ rfl; simpa [hCi, hCr] using h
    have f2 : DataW.trod enc Try.prog w base spare held n 51 [c2] = some y2 := by have h := hf 2 _ rfl; simpa [hCi, hCb, hCr] using h
    simp only [DataW.weights, Try.underlying79, List.map_cons, List.map_nil, DataW.weightsEach, List.all_append, Bool.and_eq_true] at hx
    obtain ⟨m0, g0, _⟩ := opens_int w f0
    obtain ⟨A, l, c, g1, h2, h3⟩ := opens_reads w f1 hx.2.1
    obtain ⟨B, m, d, g2, h4, h5⟩ := opens_writes w f2 hx.2.2.1
    simp at g0 g1 g2
    subst g0 g1 g2
    exact ⟨⟨m0, l, m⟩, A, c, B, d, rfl, h2, h4, h3, h5, opens_slice_cap Try.underlying77 f1, opens_slice_cap Try.underlying51 f2⟩
end Go.Proofs.Ythhcdibimnifaaa
