/- From the form's reading of arguments to the words of Core: writes, tenants, commits, reads and transactions. -/
import Derived.Test.YthhcdibimnifaaaOpen
import Derived.Test.YthhcdibimnifaaaWr
import Derived.Test.YthhcdibimnifaaaTen
import Derived.Test.YthhcdibimnifaaaCm
import Derived.Test.YthhcdibimnifaaaTxn
namespace Go.Proofs.Ythhcdibimnifaaa
open Go.RowKit Go.ChangeShapes Go.WideShapes Go.ChangeAt Go.Deep
set_option linter.unusedVariables false
set_option linter.unusedSimpArgs false

/-- A field that is a bool. -/
theorem opens_bool (w : World) {H : Type} {enc : TypeId × Value → H} {base : Nat} {spare : Nat → Bool} {held : Bool} {fuel : Nat} {cs : List Value} {x : DataW H × List MemPlace}
    (h : DataW.trod enc Try.prog w base spare held fuel 4 cs = some x) : ∃ b, cs = [.bool b] := by
  obtain ⟨b, rfl, _⟩ := DataW.trod_bool Try.underlying4 h
  exact ⟨b, rfl⟩
set_option maxRecDepth 100000 in
theorem opens_wr (w : World) : Opens WrR w 94 := by
  intro H enc base spare held fuel cs x h hx
  obtain ⟨xs, n, _, rfl, hcl, hxl, hf⟩ := DataW.trod_struct Try.underlying94 h
  have hC : Try.prog.cellsOf 94 = 4 := by kernel_rfl
  have hCb : Try.prog.cellsOf 23 = 1 := by kernel_rfl
  have hCo : Try.prog.cellsOf 4 = 1 := by kernel_rfl
  rw [hC] at hcl
  match xs, hxl, cs, hcl with
  | [y0, y1, y2, y3], _, [c0, c1, c2, c3], _ =>
    have f0 : DataW.trod enc Try.prog w base spare held n 23 [c0] = some y0 := by have h := hf 0 _ rfl; simpa [hCb] using h
    have f1 : DataW.trod enc Try.prog w base spare held n 23 [c1] = some y1 := by have h := hf 1 _ rfl; simpa [hCb] using h
    have f2 : DataW.trod enc Try.prog w base spare held n 4 [c2] = some y2 := by have h := hf 2 _ rfl; simpa [hCb, hCo] using h
    have f3 : DataW.trod enc Try.prog w base spare held n 23 [c3] = some y3 := by have h := hf 3 _ rfl; simpa [hCb, hCo] using h
    simp only [DataW.weights, Try.underlying94, List.map_cons, List.map_nil, DataW.weightsEach, List.all_append, Bool.and_eq_true] at hx
    obtain ⟨A, a, ca, g0, h1, h2⟩ := opens_bytes w f0 hx.1
    obtain ⟨B, b, cb, g1, h3, h4⟩ := opens_bytes w f1 hx.2.1
    obtain ⟨o, g2⟩ := opens_bool w f2
    obtain ⟨C, c, cc, g3, h5, h6⟩ := opens_bytes w f3 hx.2.2.2.1
    simp at g0 g1 g2 g3
    subst g0 g1 g2 g3
    exact ⟨⟨a, b, o, c⟩, A, ca, B, cb, C, cc, rfl, h1, h3, h5, h2, h4, h6⟩
theorem opens_writes (w : World) {H : Type} {enc : TypeId × Value → H} {base : Nat} {spare : Nat → Bool} {held : Bool} {fuel : Nat} {cs : List Value} {x : DataW H × List MemPlace}
    (h : DataW.trod enc Try.prog w base spare held fuel 51 cs = some x) (hx : (x.1.weights Try.prog 51).all (· ≤ reachBytes) = true) :
    ∃ A l c, cs = [.slice A (l : List Wr).length c] ∧ Ws All w A l ∧ l.length * 80 ≤ 140737488355328 := by
  obtain ⟨A, l, c, h1, h2, h3⟩ := opens_slice (size := 4) Try.underlying51 (by kernel_rfl) (by decide) (opens_wr w) h hx
  have hb : Try.prog.bytesOf 94 = 80 := by kernel_rfl
  rw [hb] at h3
  exact ⟨A, l, c, h1, h2, by simp only [reachBytes] at *; omega⟩
theorem opens_slice_cap {H : Type} {enc : TypeId × Value → H} {w : World} {base : Nat} {spare : Nat → Bool} {held : Bool} {fuel : Nat} {x : DataW H × List MemPlace} {T E : TypeId} (hT : Try.prog.underlying T = some (.slice E)) {A : Option Addr} {n c : Nat}
    (h : DataW.trod enc Try.prog w base spare held fuel T [.slice A n c] = some x) : n ≤ c := by
  rcases open_slice hT h with ⟨h0, _⟩ | ⟨a, len, cap, m, _, D, Pl, h0, _, hl, _⟩
  · simp at h0; omega
  · simp at h0; omega
set_option maxRecDepth 100000 in
theorem opens_ten (w : World) : Opens TenR w 122 := by
  intro H enc base spare held fuel cs x h hx
  obtain ⟨xs, n, _, rfl, hcl, hxl, hf⟩ := DataW.trod_struct Try.underlying122 h
  have hC : Try.prog.cellsOf 122 = 2 := by kernel_rfl
  have hCb : Try.prog.cellsOf 23 = 1 := by kernel_rfl
  have hCp : Try.prog.cellsOf 22 = 1 := by kernel_rfl
  rw [hC] at hcl
  match xs, hxl, cs, hcl with
  | [y0, y1], _, [c0, c1], _ =>
    have f0 : DataW.trod enc Try.prog w base spare held n 23 [c0] = some y0 := by
      have h := hf 0 _ rfl
      simpa [hCb] using h
    have f1 : DataW.trod enc Try.prog w base spare held n 22 [c1] = some y1 := by
      have h := hf 1 _ rfl
      simpa [hCb, hCp] using h
    simp only [DataW.weights, Try.underlying122, List.map_cons, List.map_nil, DataW.weightsEach, List.all_append, Bool.and_eq_true] at hx
    obtain ⟨A, l, c, h1, h2, h3⟩ := opens_bytes w f0 hx.1
    obtain ⟨B, m, d, g1, g2, g3⟩ := opens_pairs w f1 hx.2.1
    simp at h1 g1
    subst h1 g1
    exact ⟨(l, m), A, c, B, d, rfl, h2, g2, h3, g3, opens_slice_cap Try.underlying22 f1⟩
theorem opens_tenants (w : World) {H : Type} {enc : TypeId × Value → H} {base : Nat} {spare : Nat → Bool} {held : Bool} {fuel : Nat} {cs : List Value} {x : DataW H × List MemPlace}
    (h : DataW.trod enc Try.prog w base spare held fuel 43 cs = some x) (hx : (x.1.weights Try.prog 43).all (· ≤ reachBytes) = true) :
    ∃ A l c, cs = [.slice A (l : List Tn).length c] ∧ Ts All w A l ∧ l.length * 48 ≤ 140737488355328 := by
  obtain ⟨A, l, c, h1, h2, h3⟩ := opens_slice (size := 2) Try.underlying43 (by kernel_rfl) (by decide) (opens_ten w) h hx
  have hb : Try.prog.bytesOf 122 = 48 := by kernel_rfl
  rw [hb] at h3
  exact ⟨A, l, c, h1, h2, by simp only [reachBytes] at *; omega⟩
theorem opens_int (w : World) {H : Type} {enc : TypeId × Value → H} {base : Nat} {spare : Nat → Bool} {held : Bool} {fuel : Nat} {cs : List Value} {x : DataW H × List MemPlace}
    (h : DataW.trod enc Try.prog w base spare held fuel 3 cs = some x) : ∃ n, cs = [.int .i64 n] ∧ -9223372036854775808 ≤ n ∧ n ≤ 9223372036854775807 := by
  obtain ⟨n, rfl, _, hw⟩ := DataW.trod_int Try.underlying3 h
  exact ⟨n, rfl, bounds_i64 hw⟩
set_option maxRecDepth 100000 in
theorem opens_commit (w : World) : Opens CmR w 59 := by
  intro H enc base spare held fuel cs x h hx
  obtain ⟨xs, n, _, rfl, hcl, hxl, hf⟩ := DataW.trod_struct Try.underlying59 h
  have hC : Try.prog.cellsOf 59 = 2 := by kernel_rfl
  have hCb : Try.prog.cellsOf 51 = 1 := by kernel_rfl
  have hCi : Try.prog.cellsOf 3 = 1 := by kernel_rfl
  rw [hC] at hcl
  match xs, hxl, cs, hcl with
  | [y0, y1], _, [c0, c1], _ =>
    have f0 : DataW.trod enc Try.prog w base spare held n 3 [c0] = some y0 := by have h := hf 0 _ rfl; simpa [hCi] using h
    have f1 : DataW.trod enc Try.prog w base spare held n 51 [c1] = some y1 := by have h := hf 1 _ rfl; simpa [hCi, hCb] using h
    simp only [DataW.weights, Try.underlying59, List.map_cons, List.map_nil, DataW.weightsEach, List.all_append, Bool.and_eq_true] at hx
    obtain ⟨m0, g0, _⟩ := opens_int w f0
    obtain ⟨B, m, d, g1, h2, h3⟩ := opens_writes w f1 hx.2.1
    simp at g0 g1
    subst g0 g1
    exact ⟨(m0, m), B, d, rfl, h2, h3⟩
theorem opens_commits (w : World) {H : Type} {enc : TypeId × Value → H} {base : Nat} {spare : Nat → Bool} {held : Bool} {fuel : Nat} {cs : List Value} {x : DataW H × List MemPlace}
    (h : DataW.trod enc Try.prog w base spare held fuel 70 cs = some x) (hx : (x.1.weights Try.prog 70).all (· ≤ reachBytes) = true) :
    ∃ A l c, cs = [.slice A (l : List Cm).length c] ∧ Cs All w A l ∧ l.length * 32 ≤ 140737488355328 := by
  obtain ⟨A, l, c, h1, h2, h3⟩ := opens_slice (size := 2) Try.underlying70 (by kernel_rfl) (by decide) (opens_commit w) h hx
  have hb : Try.prog.bytesOf 59 = 32 := by kernel_rfl
  rw [hb] at h3
  exact ⟨A, l, c, h1, h2, by simp only [reachBytes] at *; omega⟩
set_option maxRecDepth 100000 in
theorem opens_rd (w : World) : Opens WrR w 88 := by
  intro H enc base spare held fuel cs x h hx
  obtain ⟨xs, n, _, rfl, hcl, hxl, hf⟩ := DataW.trod_struct Try.underlying88 h
  have hC : Try.prog.cellsOf 88 = 4 := by kernel_rfl
  have hCb : Try.prog.cellsOf 23 = 1 := by kernel_rfl
  have hCo : Try.prog.cellsOf 4 = 1 := by kernel_rfl
  rw [hC] at hcl
  match xs, hxl, cs, hcl with
  | [y0, y1, y2, y3], _, [c0, c1, c2, c3], _ =>
    have f0 : DataW.trod enc Try.prog w base spare held n 23 [c0] = some y0 := by have h := hf 0 _ rfl; simpa [hCb] using h
    have f1 : DataW.trod enc Try.prog w base spare held n 23 [c1] = some y1 := by have h := hf 1 _ rfl; simpa [hCb] using h
    have f2 : DataW.trod enc Try.prog w base spare held n 4 [c2] = some y2 := by have h := hf 2 _ rfl; simpa [hCb, hCo] using h
    have f3 : DataW.trod enc Try.prog w base spare held n 23 [c3] = some y3 := by have h := hf 3 _ rfl; simpa [hCb, hCo] using h
    simp only [DataW.weights, Try.underlying88, List.map_cons, List.map_nil, DataW.weightsEach, List.all_append, Bool.and_eq_true] at hx
    obtain ⟨A, a, ca, g0, h1, h2⟩ := opens_bytes w f0 hx.1
    obtain ⟨B, b, cb, g1, h3, h4⟩ := opens_bytes w f1 hx.2.1
    obtain ⟨o, g2⟩ := opens_bool w f2
    obtain ⟨C, c, cc, g3, h5, h6⟩ := opens_bytes w f3 hx.2.2.2.1
    simp at g0 g1 g2 g3
    subst g0 g1 g2 g3
    exact ⟨⟨a, b, o, c⟩, A, ca, B, cb, C, cc, rfl, h1, h3, h5, h2, h4, h6⟩
theorem opens_reads (w : World) {H : Type} {enc : TypeId × Value → H} {base : Nat} {spare : Nat → Bool} {held : Bool} {fuel : Nat} {cs : List Value} {x : DataW H × List MemPlace}
    (h : DataW.trod enc Try.prog w base spare held fuel 77 cs = some x) (hx : (x.1.weights Try.prog 77).all (· ≤ reachBytes) = true) :
    ∃ A l c, cs = [.slice A (l : List Wr).length c] ∧ Ws All w A l ∧ l.length * 80 ≤ 140737488355328 := by
  obtain ⟨A, l, c, h1, h2, h3⟩ := opens_slice (size := 4) Try.underlying77 (by kernel_rfl) (by decide) (opens_rd w) h hx
  have hb : Try.prog.bytesOf 88 = 80 := by kernel_rfl
  rw [hb] at h3
  exact ⟨A, l, c, h1, h2, by simp only [reachBytes] at *; omega⟩
theorem opens_write (w : World) : Opens WrR w 94 := opens_wr w
theorem opens_read (w : World) : Opens WrR w 88 := opens_rd w
set_option maxRecDepth 100000 in
theorem opens_txn (w : World) : Opens TxR w 79 := by
  intro H enc base spare held fuel cs x h hx
  obtain ⟨xs, n, _, rfl, hcl, hxl, hf⟩ := DataW.trod_struct Try.underlying79 h
  have hC : Try.prog.cellsOf 79 = 3 := by kernel_rfl
  have hCb : Try.prog.cellsOf 51 = 1 := by kernel_rfl
  have hCr : Try.prog.cellsOf 77 = 1 := by kernel_rfl
  have hCi : Try.prog.cellsOf 3 = 1 := by kernel_rfl
  rw [hC] at hcl
  match xs, hxl, cs, hcl with
  | [y0, y1, y2], _, [c0, c1, c2], _ =>
    have f0 : DataW.trod enc Try.prog w base spare held n 3 [c0] = some y0 := by have h := hf 0 _ rfl; simpa [hCi] using h
    have f1 : DataW.trod enc Try.prog w base spare held n 77 [c1] = some y1 := by have h := hf 1 _ rfl; simpa [hCi, hCr] using h
    have f2 : DataW.trod enc Try.prog w base spare held n 51 [c2] = some y2 := by have h := hf 2 _ rfl; simpa [hCi, hCb, hCr] using h
    simp only [DataW.weights, Try.underlying79, List.map_cons, List.map_nil, DataW.weightsEach, List.all_append, Bool.and_eq_true] at hx
    obtain ⟨m0, g0, _⟩ := opens_int w f0
    obtain ⟨A, l, c, g1, h2, h3⟩ := opens_reads w f1 hx.2.1
    obtain ⟨B, m, d, g2, h4, h5⟩ := opens_writes w f2 hx.2.2.1
    simp at g0 g1 g2
    subst g0 g1 g2
    exact ⟨⟨m0, l, m⟩, A, c, B, d, rfl, h2, h4, h3, h5, opens_slice_cap Try.underlying77 f1, opens_slice_cap Try.underlying51 f2⟩
end Go.Proofs.Ythhcdibimnifaaa
