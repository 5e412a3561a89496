/- OpenA: From the form's reading of arguments to the words of Core: what comes in as data reads as lists. From the form's reading of arguments to the words of Core: tenants. From the form's reading of arguments to the words of Core: acts, tapes. From the form's reading of arguments to the words of Core: tapes. The conditions of each are in its words. -/
import Derived.Test.YtjidppcfjkjjoaaDoorRows
import Derived.ProofKit
import Derived.OpenShut
import Derived.ShutString
import Derived.ChangeOld
import Derived.SizedLaws
import Derived.Deep.Slices
import Derived.Deep.Fields
import Derived.Test.YtjidppcfjkjjoaaDoorKBase
import Derived.Test.YtjidppcfjkjjoaaDoorKForest
import Derived.Test.YtjidppcfjkjjoaaDoorKTapeK
namespace Go.Proofs.YtjidppcfjkjjoaaDoor
open Go.RowKit Go.ChangeShapes Go.WideShapes Go.ChangeAt Go.Deep
set_option linter.unusedVariables false
set_option linter.unusedSimpArgs false

/-- Whatever the form reads at type T is a datum of R's. -/
def Opens {α : Type} (R : (Nat → Prop) → World → List Value → α → Prop) (w : World) (T : TypeId) : Prop :=
  ∀ (H : Type) (enc : TypeId × Value → H) (base : Nat) (spare : Nat → Bool) (held : Bool) (fuel : Nat) (cs : List Value) (x : DataW H × List MemPlace),
    DataW.trod enc Tryd.prog w base spare held fuel T cs = some x → (x.1.weights Tryd.prog T).all (· ≤ reachBytes) = true → ∃ d, R All w cs d

theorem list_of {α : Type} (p : Nat → α → Prop) : ∀ n : Nat, (∀ i, i < n → ∃ d, p i d) → ∃ l : List α, l.length = n ∧ ∀ i (h : i < l.length), p i l[i]
  | 0, _ => ⟨[], rfl, fun i h => absurd h (by simp)⟩
  | n + 1, h => by
    obtain ⟨l, hl, hp⟩ := list_of p n (fun i hi => h i (by omega))
    obtain ⟨d, hd⟩ := h n (by omega)
    refine ⟨l ++ [d], by simp [hl], fun i hi => ?_⟩
    by_cases hil : i < l.length
    · rw [List.getElem_append_left hil]; exact hp i hil
    · have e : i = l.length := by rw [List.length_append, List.length_singleton] at hi; omega
      subst e
      rw [List.getElem_append_right (Nat.le_refl _)]
      simpa [hl] using hd

theorem opens_u8 (w : World) : Opens ByteR w 5 := by
  intro H enc base spare held fuel cs x h _
  obtain ⟨n, rfl, _, hw⟩ := DataW.trod_int Tryd.underlying5 h
  refine ⟨UInt8.ofNat n.toNat, ?_⟩
  have hb := bounds_u8 hw
  unfold ByteR bv
  congr 2
  have : (UInt8.ofNat n.toNat).toNat = n.toNat := by simp; omega
  rw [this]
  omega

theorem opens_slice {α : Type} {R : (Nat → Prop) → World → List Value → α → Prop} {w : World} {T E : TypeId} {size : Nat} (hT : Tryd.prog.underlying T = some (.slice E)) (hC : Tryd.prog.cellsOf E = size) (hs : 0 < size) (hE : Opens R w E)
    {H : Type} {enc : TypeId × Value → H} {base : Nat} {spare : Nat → Bool} {held : Bool} {fuel : Nat} {cs : List Value} {x : DataW H × List MemPlace}
    (h : DataW.trod enc Tryd.prog w base spare held fuel T cs = some x) (hx : (x.1.weights Tryd.prog T).all (· ≤ reachBytes) = true) :
    ∃ A l c, cs = [.slice A l.length c] ∧ SL size R All w A l ∧ l.length * Tryd.prog.bytesOf E ≤ reachBytes := by
  rcases open_slice hT h with ⟨rfl, rfl⟩ | ⟨a, len, cap, m, n, D, Pl, rfl, hb, hl, hm, hmm, rfl, hi⟩
  · exact ⟨none, [], 0, rfl, SL.nil, by simp⟩
  · subst hC
    simp only [DataW.weights, hT, List.all_cons, List.all_append, Bool.and_eq_true, decide_eq_true_eq, List.length_map, List.length_range] at hx
    have hlm : len ≤ m := by rw [hmm]; split <;> omega
    have he : ∀ i, i < len → ∃ d, ∃ cs', (cs'.length = Tryd.prog.cellsOf E ∧ ∀ j, j < Tryd.prog.cellsOf E → w.cell? ((a.add (i * Tryd.prog.cellsOf E)).add j) = cs'[j]?) ∧ R All w cs' d := by
      intro i hil
      obtain ⟨cs', hc, ht⟩ := hi i (by omega)
      have hw : ((D i).weights Tryd.prog E).all (· ≤ reachBytes) = true := by
        have h2 := hx.2.1
        have hmem : ∀ (l : List Nat), i ∈ l → ∀ y ∈ (D i).weights Tryd.prog E, y ∈ DataW.weightsAll Tryd.prog E (l.map D) := by
          intro l
          induction l with
          | nil => intro h; cases h
          | cons a r ih =>
            intro h y hy
            simp only [List.map_cons, DataW.weightsAll, List.mem_append]
            cases List.mem_cons.1 h with
            | inl e => subst e; exact .inl hy
            | inr e => exact .inr (ih e y hy)
        rw [List.all_eq_true] at h2 ⊢
        exact fun y hy => h2 y (hmem _ (List.mem_range.2 hil) y hy)
      obtain ⟨d, hd⟩ := hE H enc base spare held n cs' _ ht hw
      obtain ⟨_, hcl, hat⟩ := World.cells?_some hc
      exact ⟨d, cs', ⟨hcl, hat⟩, hd⟩
    rcases Nat.eq_zero_or_pos len with h0 | h0
    · subst h0
      exact ⟨some a, [], cap, rfl, SL.nil, by simp⟩
    · obtain ⟨b, off, sp⟩ := a
      have hsp : sp = none := by
        obtain ⟨d, cs', ⟨hl', hat⟩, _⟩ := he 0 h0
        have := hat 0 hs
        cases sp with
        | none => rfl
        | some s =>
          have hne : cs'[0]? = some (cs'[0]'(by omega)) := List.getElem?_eq_getElem (by omega)
          rw [hne] at this
          simp [Addr.add, World.cell?] at this
          split at this <;> simp_all
      subst hsp
      obtain ⟨l, hll, hp⟩ := list_of _ len he
      subst hll
      have hlt : b < w.heap.size := by
        obtain ⟨d, cs', ⟨hl', hat⟩, _⟩ := he 0 h0
        have h1 := hat 0 hs
        have hne : cs'[0]? = some (cs'[0]'(by omega)) := List.getElem?_eq_getElem (by omega)
        rw [hne, add_at, add_at] at h1
        exact World.block_lt_of_cell? w _ h1
      refine ⟨some ⟨b, off, none⟩, l, cap, rfl, fun _ => ⟨b, off, rfl, trivial, hlt, fun i hi => ?_⟩, ?_⟩
      · obtain ⟨cs', ⟨hl', hat⟩, hd⟩ := hp i hi
        refine ⟨cs', hl', fun j hj => ?_, hd⟩
        rw [← hat j hj, add_at, add_at]
      · exact Nat.le_trans (Nat.mul_le_mul_right _ (by omega)) hx.1
/-- A field, or an argument, that is a []byte. -/
theorem opens_bytes (w : World) {H : Type} {enc : TypeId × Value → H} {base : Nat} {spare : Nat → Bool} {held : Bool} {fuel : Nat} {cs : List Value} {x : DataW H × List MemPlace}
    (h : DataW.trod enc Tryd.prog w base spare held fuel 32 cs = some x) (hx : (x.1.weights Tryd.prog 32).all (· ≤ reachBytes) = true) :
    ∃ A l c, cs = [.slice A (l : List UInt8).length c] ∧ Bs All w A l ∧ l.length ≤ big := by
  obtain ⟨A, l, c, h1, h2, h3⟩ := opens_slice (size := 1) Tryd.underlying32 (by kernel_rfl) (by decide) (opens_u8 w) h hx
  have hb : Tryd.prog.bytesOf 5 = 1 := by kernel_rfl
  rw [hb] at h3
  exact ⟨A, l, c, h1, h2, by simp only [reachBytes, big] at *; omega⟩
end Go.Proofs.YtjidppcfjkjjoaaDoor
namespace Go.Proofs.YtjidppcfjkjjoaaDoor
open Go.RowKit Go.ChangeShapes Go.WideShapes Go.ChangeAt Go.Deep
set_option linter.unusedVariables false
set_option linter.unusedSimpArgs false

theorem opens_slice_cap {H : Type} {enc : TypeId × Value → H} {w : World} {base : Nat} {spare : Nat → Bool} {held : Bool} {fuel : Nat} {x : DataW H × List MemPlace} {T E : TypeId} (hT : Tryd.prog.underlying T = some (.slice E)) {A : Option Addr} {n c : Nat}
    (h : DataW.trod enc Tryd.prog w base spare held fuel T [.slice A n c] = some x) : n ≤ c := by
  rcases open_slice hT h with ⟨h0, _⟩ | ⟨a, len, cap, m, _, D, Pl, h0, _, hl, _⟩
  · simp at h0; omega
  · simp at h0; omega
end Go.Proofs.YtjidppcfjkjjoaaDoor
namespace Go.Proofs.YtjidppcfjkjjoaaDoor
open Go.RowKit Go.ChangeShapes Go.WideShapes Go.ChangeAt Go.Deep
set_option linter.unusedVariables false
set_option linter.unusedSimpArgs false

theorem opens_int (w : World) {H : Type} {enc : TypeId × Value → H} {base : Nat} {spare : Nat → Bool} {held : Bool} {fuel : Nat} {cs : List Value} {x : DataW H × List MemPlace}
    (h : DataW.trod enc Tryd.prog w base spare held fuel 3 cs = some x) : ∃ n, cs = [.int .i64 n] ∧ -9223372036854775808 ≤ n ∧ n ≤ 9223372036854775807 := by
  obtain ⟨n, rfl, _, hw⟩ := DataW.trod_int Tryd.underlying3 h
  exact ⟨n, rfl, bounds_i64 hw⟩
structure Act1 where
  kind : Int
  session : Int
  keep : Int
  data : List UInt8
/-- The four cells of an act. -/
def ActR (S : Nat → Prop) (w : World) (cs : List Value) (a : Act1) : Prop :=
  ∃ A c, cs = [.int .i64 a.kind, .int .i64 a.session, .int .i64 a.keep, .slice A a.data.length c] ∧ Bs S w A a.data ∧ a.data.length ≤ big
set_option maxRecDepth 100000 in
theorem opens_act (w : World) : Opens ActR w 34 := by
  intro H enc base spare held fuel cs x h hx
  obtain ⟨xs, n, _, rfl, hcl, hxl, hf⟩ := DataW.trod_struct Tryd.underlying34 h
  have hC : Tryd.prog.cellsOf 34 = 4 := by kernel_rfl
  have hCb : Tryd.prog.cellsOf 32 = 1 := by kernel_rfl
  have hCi : Tryd.prog.cellsOf 3 = 1 := by kernel_rfl
  rw [hC] at hcl
  match xs, hxl, cs, hcl with
  | [y0, y1, y2, y3], _, [c0, c1, c2, c3], _ =>
    have f0 : DataW.trod enc Tryd.prog w base spare held n 3 [c0] = some y0 := by have h := hf 0 _ rfl; simpa [hCi] using h
    have f1 : DataW.trod enc Tryd.prog w base spare held n 3 [c1] = some y1 := by have h := hf 1 _ rfl; simpa [hCi] using h
    have f2 : DataW.trod enc Tryd.prog w base spare held n 3 [c2] = some y2 := by have h := hf 2 _ rfl; simpa [hCi] using h
    have f3 : DataW.trod enc Tryd.prog w base spare held n 32 [c3] = some y3 := by have h := hf 3 _ rfl; simpa [hCb] using h
    simp only [DataW.weights, Tryd.underlying34, List.map_cons, List.map_nil, DataW.weightsEach, List.all_append, Bool.and_eq_true] at hx
    obtain ⟨m0, g0, _⟩ := opens_int w f0
    obtain ⟨m1, g1, _⟩ := opens_int w f1
    obtain ⟨m2, g2, _⟩ := opens_int w f2
    obtain ⟨B, m, d, g3, h2, h3⟩ := opens_bytes w f3 hx.2.2.2.1
    simp at g0 g1 g2 g3
    subst g0 g1 g2 g3
    exact ⟨⟨m0, m1, m2, m⟩, B, d, rfl, h2, h3⟩
end Go.Proofs.YtjidppcfjkjjoaaDoor
namespace Go.Proofs.YtjidppcfjkjjoaaDoor
open Go.RowKit Go.ChangeShapes Go.WideShapes Go.ChangeAt Go.Deep
set_option linter.unusedVariables false
set_option linter.unusedSimpArgs false

theorem opens_slice_capT {H : Type} {enc : TypeId × Value → H} {w : World} {base : Nat} {spare : Nat → Bool} {held : Bool} {fuel : Nat} {x : DataW H × List MemPlace} {T E : TypeId} (hT : Tryd.prog.underlying T = some (.slice E)) {A : Option Addr} {n c : Nat}
    (h : DataW.trod enc Tryd.prog w base spare held fuel T [.slice A n c] = some x) : n ≤ c := by
  rcases open_slice hT h with ⟨h0, _⟩ | ⟨a, len, cap, m, _, D, Pl, h0, _, hl, _⟩
  · simp at h0; omega
  · simp at h0; omega
end Go.Proofs.YtjidppcfjkjjoaaDoor
