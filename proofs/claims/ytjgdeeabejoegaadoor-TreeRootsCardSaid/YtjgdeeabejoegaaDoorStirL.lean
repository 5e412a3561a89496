/- The state of 25 lanes in a block; tables of the digest: words for memory; plain laws of stir. -/
import Derived.Test.YtjgdeeabejoegaaDoorKecV
import Derived.Test.YtjgdeeabejoegaaDoorBytes
import Derived.Deep.MidRow
namespace Go.Proofs.YtjgdeeabejoegaaDoor
open Go.RowKit
set_option linter.unusedVariables false
set_option linter.unusedSimpArgs false

/-- The cells of lanes without a sign. -/
def uc (l : List Ln) : List Value := l.map fun x => Value.int .u64 (uv x)
theorem uc_len (l : List Ln) : (uc l).length = l.length := by simp [uc]
theorem uc_set (l : List Ln) (i : Nat) (x : Ln) : (uc l).toArray.setIfInBounds i (.int .u64 (uv x)) = (uc (l.set i x)).toArray := by
  unfold uc
  rw [List.setIfInBounds_toArray, List.map_set]
theorem uc_get (l : List Ln) {k : Nat} (hk : k < l.length) : (uc l)[k]? = some (.int .u64 (uv (ga l k))) := by
  unfold uc
  rw [List.getElem?_map, List.getElem?_eq_getElem hk, ga, List.getD_eq_getElem?_getD, List.getElem?_eq_getElem hk]
  rfl
theorem uc_cell {w : World} {g : Nat} {t : TypeId} {l : List Ln} (h : w.heap[g]? = some (.cells (uc l).toArray t (0, 0))) {k : Nat} (hk : k < l.length) : w.cell? ⟨g, k, none⟩ = some (.int .u64 (uv (ga l k))) := by
  rw [box_cell (cs := uc l) h k, uc_get l hk]
theorem uc_free {w : World} {g : Nat} {t : TypeId} {l : List Ln} (h : w.heap[g]? = some (.cells (uc l).toArray t (0, 0))) (k : Nat) : w.frozen? ⟨g, k, none⟩ = false := box_frozen (cs := uc l) h k
/-- The tables of the digest lie in their variables. -/
structure TabsAt (w : World) : Prop where
  rounds : ∀ k, k < 24 → w.cell? ⟨3, k, none⟩ = some (.int .u64 (uv (rcS k)))
  goes : w.rangeAt 1 0 (goesT.map fun (n : Nat) => Value.int .i64 (n : Int))
  turns : ∀ k, k < 24 → w.cell? ⟨2, k, none⟩ = some (.int .i64 (tnS k : Nat))
theorem TabsAt.bsame {S : Nat → Prop} {w w' : World} (h : TabsAt w) (hb : Same S w w') (hS : S 3 ∧ S 1 ∧ S 2) : TabsAt w' :=
  ⟨fun k hk => (hb.cell hS.1 (World.block_lt_of_cell? w _ (h.rounds k hk))).trans (h.rounds k hk), fun j v hv => (hb.cell hS.2.1 (World.block_lt_of_cell? w _ (h.goes j v hv))).trans (h.goes j v hv), fun k hk => (hb.cell hS.2.2 (World.block_lt_of_cell? w _ (h.turns k hk))).trans (h.turns k hk)⟩
theorem TabsAt.below {w w' : World} (h : TabsAt w) (hb : Below w.heap.size w w') : TabsAt w' :=
  ⟨fun k hk => (hb.cell (World.block_lt_of_cell? w _ (h.rounds k hk))).trans (h.rounds k hk), fun j v hv => (hb.cell (World.block_lt_of_cell? w _ (h.goes j v hv))).trans (h.goes j v hv), fun k hk => (hb.cell (World.block_lt_of_cell? w _ (h.turns k hk))).trans (h.turns k hk)⟩
/-! ### plain laws of stir's parts -/
/-- Columns so far. -/
def colsT (s : List Ln) (n : Nat) : List Ln := (List.range 5).map fun x => if x < n then colS s x else 0
theorem cols_set (s : List Ln) {n : Nat} (h : n < 5) : (colsT s n).set n (colS s n) = colsT s (n + 1) := by
  have e : ∀ n, colsT s n = tab 5 fun x => if x < n then colS s x else 0 := fun _ => rfl
  rw [e, e, tab_set]
  refine tab_congr fun k hk => ?_
  by_cases h1 : k = n
  · subst h1; rw [if_pos rfl, if_pos (by omega)]
  · rw [if_neg h1]
    by_cases h2 : k < n
    · rw [if_pos h2, if_pos (by omega)]
    · rw [if_neg h2, if_neg (by omega)]
theorem cols_ga (s : List Ln) {x : Nat} (h : x < 5) : ga (colsT s 5) x = colS s x := by
  have e : colsT s 5 = tab 5 fun x => if x < 5 then colS s x else 0 := rfl
  rw [e, ga_tab _ h, if_pos h]
theorem cols_len (s : List Ln) (n : Nat) : (colsT s n).length = 5 := by simp [colsT]
def thetaT (s : List Ln) (i : Nat) : List Ln := upto 25 (thetaS s) s i
def chiT (s : List Ln) (i : Nat) : List Ln := upto 25 (chiS s) s i
theorem moves_last (s : List Ln) {i : Nat} (h : i < 24) : ga (movesT s s i) (goS i) = ga s (srcS (i + 1)) := by
  rw [moves_old s s h, srcS, if_neg (by omega), Nat.add_sub_cancel]
end Go.Proofs.YtjgdeeabejoegaaDoor
