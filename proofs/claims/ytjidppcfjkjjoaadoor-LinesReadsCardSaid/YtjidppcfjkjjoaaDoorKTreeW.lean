/- TreeW: slices.Insert of one pair among pairs of the call's own: three roads. slices.Insert of one pair among pairs of the call's own: where there is no room; and all roads in one. Walks: PutOf of the references; tree.Put. Walks: a key taken out of pairs. slices.Delete of pairs. Walks: tree.Delete; the law TreeDeletes. Walks: tree.Put; the law TreePuts. The conditions of each are in its words. -/
import Derived.Shelf.Spec.SlicesInsert
import Derived.Lib.Overlaps
import Derived.Lib.AppendZerosOnto
import Derived.Test.YtjidppcfjkjjoaaDoorKBase
import Derived.Test.YtjidppcfjkjjoaaDoorKTrees
namespace Go.Proofs.YtjidppcfjkjjoaaDoor
open Go.RowKit
set_option linter.unusedVariables false
set_option linter.unusedSimpArgs false

theorem run_copy_chunks {P : Program} (w : World) (dT sT ty elem : TypeId) (size n : Nat) (b o dLen dCap : Nat) (a : Addr) (sLen sCap : Nat) (cs : List Value)
    (hu : P.underlying dT = some (.slice elem)) (hs : (P.info? elem).map (·.size) = some size) (hn : n = Nat.min sLen dLen) (hl : cs.length = n * size)
    (hsrc : ∀ j v, cs[j]? = some v → w.cell? (a.add j) = some v) (hc : ∀ j, j < cs.length → (w.cell? ⟨b, o + j, none⟩).isSome = true) (hf : ∀ j, j < cs.length → w.frozen? ⟨b, o + j, none⟩ = false) (h1 : ∀ v ∈ cs, v.oneCell' = true) :
    (Builtin.copy_ #[dT, sT] ty #[.slice (some ⟨b, o, none⟩) dLen dCap, .slice (some a) sLen sCap]).run P w = .ok (goInt n) (w.setCells b o cs) := by
  have hst := run_storeCells_cells (P := P) b o cs 0 w (by simpa using hc) (by simpa using hf) h1
  have hfc := run_firstCells_some (P := P) w size n a sLen sCap cs hl hsrc
  cases hq : P.info? elem with
  | none => simp [hq] at hs
  | some i =>
    have hi : i.size = size := by simpa [hq] using hs
    simp [Builtin.copy_, run_underlying hu, Builtin.lenOf, sizeOf, typeInfo, hq, hi, ← hn, hfc, hst]
theorem each_one {α : Type} {R : (Nat → Prop) → World → List Value → α → Prop} {S : Nat → Prop} {w : World} (hone : ∀ S w c x, R S w c x → ∀ u ∈ c, u.oneCell' = true) : ∀ {css : List (List Value)} {l : List α}, Each (R S w) css l → ∀ u ∈ css.flatten, u.oneCell' = true
  | [], [], _, u, hu => by simp at hu
  | c :: cs, x :: xs, h, u, hu => by
    rw [List.flatten_cons] at hu
    rcases List.mem_append.1 hu with h1 | h1
    · exact hone _ _ _ _ h.1 u h1
    · exact each_one hone h.2 u h1
  | [], _ :: _, h, _, _ => h.elim
  | _ :: _, [], h, _, _ => h.elim
theorem pairR_one : ∀ S w c x, PairR S w c x → ∀ u ∈ c, u.oneCell' = true := by
  rintro S w c x ⟨A, c1, B, d, rfl, _⟩ u hu
  simp only [List.mem_cons, List.not_mem_nil, or_false] at hu
  rcases hu with e | e <;> rw [e] <;> rfl
theorem shape_of_heap {w : World} {g : Nat} {t : TypeId} {cs : Array Value} (h : w.heap[g]? = some (.cells cs t (0, 0))) : w.shape? g = some (t, cs.size) := by
  simp [World.shape?, h]
theorem info_size {P : Program} {e : TypeId} {i0 : TypeInfo} {size : Nat} (hi : P.info? e = some i0) (hz : i0.size = size) : (P.info? e).map (·.size) = some size := by
  rw [hi]; simp [hz]
theorem sizeOf_run {P : Program} {e : TypeId} {i0 : TypeInfo} {size : Nat} (hi : P.info? e = some i0) (hz : i0.size = size) (w : World) : (Go.sizeOf e).run P w = .ok size w := by
  simp [Go.sizeOf, typeInfo, hi, hz]
theorem ins_cells {cur c : List Value} {css : List (List Value)} {n i : Nat} (hw : Wide 2 css) (hcl : css.length = n) (ht : cur.take (n * 2) = css.flatten) (hi : i ≤ n) (hc : c.length = 2) (hcur : (n + 1) * 2 ≤ cur.length) (news : List Value) (hnews : news = (css.drop i).flatten) :
    ((cur.take ((i + 1) * 2) ++ news ++ cur.drop ((i + 1) * 2 + news.length)).take (i * 2) ++ c ++ (cur.take ((i + 1) * 2) ++ news ++ cur.drop ((i + 1) * 2 + news.length)).drop (i * 2 + c.length)).take ((n + 1) * 2) = (css.take i ++ c :: css.drop i).flatten := by
  have hdl : news.length = (n - i) * 2 := by rw [hnews, flat_len (hw.drop i), List.length_drop, hcl]
  have e1 : (cur.take ((i + 1) * 2) ++ news ++ cur.drop ((i + 1) * 2 + news.length)).take (i * 2) = (css.take i).flatten := by
    rw [List.append_assoc, List.take_append_of_le_length (by rw [List.length_take]; omega), List.take_take, Nat.min_eq_left (by omega), ← flat_take hw i (by omega), ← ht, List.take_take, Nat.min_eq_left (by omega)]
  have e2 : (cur.take ((i + 1) * 2) ++ news ++ cur.drop ((i + 1) * 2 + news.length)).drop (i * 2 + c.length) = news ++ cur.drop ((i + 1) * 2 + news.length) := by
    rw [List.append_assoc, hc, show i * 2 + 2 = (cur.take ((i + 1) * 2)).length by rw [List.length_take]; omega, List.drop_left]
  have hl1 : (css.take i).flatten.length = i * 2 := by rw [flat_len (hw.take i), List.length_take]; omega
  have e3 : (css.take i ++ c :: css.drop i).flatten = (css.take i).flatten ++ c ++ news := by rw [List.flatten_append, List.flatten_cons, hnews, List.append_assoc]
  rw [e1, e2, e3, ← List.append_assoc]
  have hl2 : ((css.take i).flatten ++ c ++ news).length = (n + 1) * 2 := by rw [List.length_append, List.length_append, hl1, hc, hdl]; omega
  rw [← hl2, List.take_left]
theorem size_row (cur vs : List Value) (o k : Nat) (hk : k = o + vs.length) (h : k ≤ cur.length) : (cur.take o ++ vs ++ cur.drop k).toArray.size = cur.length := by
  simp only [List.size_toArray, List.length_append, List.length_take, List.length_drop]
  omega
theorem wide_ins {css : List (List Value)} {c : List Value} (hw : Wide 2 css) (hc : c.length = 2) (i : Nat) : Wide 2 (css.take i ++ c :: css.drop i) := by
  intro c' hc'
  rcases List.mem_append.1 hc' with h | h
  · exact hw _ (List.mem_of_mem_take h)
  · rcases List.mem_cons.1 h with rfl | h
    · exact hc
    · exact hw _ (List.mem_of_mem_drop h)
theorem each_ins {α : Type} {R : List Value → α → Prop} {css : List (List Value)} {l : List α} {c : List Value} {x : α} (h : Each R css l) (hx : R c x) (i : Nat) : Each R (css.take i ++ c :: css.drop i) (ins l i x) :=
  Each.append (cs' := c :: css.drop i) (l' := x :: l.drop i) ⟨hx, h.drop i⟩ (h.take i)
/-- What slices.Insert answers. -/
def RetIns {α : Type} (R : (Nat → Prop) → World → List Value → α → Prop) (E : TypeId) (base : Nat) (w : World) (l : List α) (e : Ending) (w' : World) : Prop :=
  ∃ v', e = .returned v' ∧ Own 2 R (From base) w' base E v' l ∧ Below base w w'
/-! ### behind all -/
/-! ### there is room -/
end Go.Proofs.YtjidppcfjkjjoaaDoor
namespace Go.Proofs.YtjidppcfjkjjoaaDoor
open Go.RowKit
set_option linter.unusedVariables false
set_option linter.unusedSimpArgs false

theorem grow_cells {row c : List Value} {css : List (List Value)} {n i : Nat} (hw : Wide 2 css) (hcl : css.length = n) (ht : row.take (i * 2) = (css.take i).flatten) (hi : i ≤ n) (hc : c.length = 2) (hrow : (n + 1) * 2 ≤ row.length) (news : List Value) (hnews : news = (css.drop i).flatten) :
    ((row.take (i * 2) ++ c ++ row.drop (i * 2 + c.length)).take ((i + 1) * 2) ++ news ++ (row.take (i * 2) ++ c ++ row.drop (i * 2 + c.length)).drop ((i + 1) * 2 + news.length)).take ((n + 1) * 2) = (css.take i ++ c :: css.drop i).flatten := by
  have hdl : news.length = (n - i) * 2 := by rw [hnews, flat_len (hw.drop i), List.length_drop, hcl]
  have hl1 : (css.take i).flatten.length = i * 2 := by rw [flat_len (hw.take i), List.length_take]; omega
  have e1 : (row.take (i * 2) ++ c ++ row.drop (i * 2 + c.length)).take ((i + 1) * 2) = (css.take i).flatten ++ c := by
    have : ((css.take i).flatten ++ c).length = (i + 1) * 2 := by rw [List.length_append, hl1, hc]; omega
    rw [ht, ← this, List.take_left]
  have e3 : (css.take i ++ c :: css.drop i).flatten = (css.take i).flatten ++ c ++ news := by rw [List.flatten_append, List.flatten_cons, hnews, List.append_assoc]
  rw [e1, e3]
  have hl2 : ((css.take i).flatten ++ c ++ news).length = (n + 1) * 2 := by rw [List.length_append, List.length_append, hl1, hc, hdl]; omega
  rw [← hl2, List.take_left]
end Go.Proofs.YtjidppcfjkjjoaaDoor
namespace Go.Proofs.YtjidppcfjkjjoaaDoor
open Go.RowKit
set_option linter.unusedVariables false
set_option linter.unusedSimpArgs false

/-- A new pair's cells, as what they say behind more allocations. -/
theorem pair_fresh {n base : Nat} {w W : World} {v : Value} {A B : Option Addr} {p : Pr} {c d : Nat} (h1 : Bs (From n) w A p.1) (h2 : Bs (From n) w B p.2) (g1 : p.1.length ≤ big) (g2 : p.2.length ≤ big) (hs : Same (From n) w W) (hb : base ≤ n) (hap : ∀ b, From n b → v.ownBlock ≠ some b) :
    PairR (fun b => From base b ∧ v.ownBlock ≠ some b) W [.slice A p.1.length c, .slice B p.2.length d] p :=
  ⟨A, c, B, d, rfl, (h1.bsame hs).bless fun b _ h => ⟨Nat.le_trans hb h, hap b h⟩, (h2.bsame hs).bless fun b _ h => ⟨Nat.le_trans hb h, hap b h⟩, g1, g2⟩
theorem pairFine_big {p : Pr} (h : pairFaultS p = 0) : p.1.length ≤ big ∧ p.2.length ≤ big := by
  unfold pairFaultS keyFault at h
  unfold big
  split at h
  · simp at h
  · split at h
    · omega
    · simp at h

end Go.Proofs.YtjidppcfjkjjoaaDoor
namespace Go.Proofs.YtjidppcfjkjjoaaDoor
open Go.RowKit
set_option linter.unusedVariables false
set_option linter.unusedSimpArgs false

def notKey (k : List UInt8) (p : Pr) : Bool := !(p.1 == k)
def delS (l : List Pr) (k : List UInt8) : List Pr × Int := if pkFault l k ≠ 0 then ([], pkFault l k) else (l.filter (notKey k), 0)
end Go.Proofs.YtjidppcfjkjjoaaDoor
namespace Go.Proofs.YtjidppcfjkjjoaaDoor
open Go.RowKit
set_option linter.unusedVariables false
set_option linter.unusedSimpArgs false

theorem run_clear_one {P : Program} (w : World) (t e ty : TypeId) (z : Value) (zs : List Value) (ht : P.underlying t = some (.slice e)) (hv : ∀ w, (zeroValue e).run P w = .ok z w) (hz : z.cells = zs.toArray) (h1 : ∀ v ∈ zs, v.oneCell' = true) (b o c : Nat)
    (hc : ∀ j, j < zs.length → (w.cell? ⟨b, o + j, none⟩).isSome = true) (hf : ∀ j, j < zs.length → w.frozen? ⟨b, o + j, none⟩ = false) :
    (Builtin.clear_ #[t] ty #[.slice (some ⟨b, o, none⟩) 1 c]).run P w = .ok (.tuple #[]) (w.setCells b o zs) := by
  have hzc : (Builtin.zeroCells z.cells 1).toList = zs := by
    rw [hz]
    apply List.ext_getElem
    · simp [Builtin.zeroCells]
    · intro i h1 h2
      simp [Builtin.zeroCells, Nat.mod_eq_of_lt h2, List.getElem?_eq_getElem h2]
  have hst := run_storeCells_cells (P := P) b o zs 0 w (by simpa using hc) (by simpa using hf) h1
  simp only [Nat.add_zero] at hst
  simp [Builtin.clear_, run_underlying ht, hv, hzc, hst]
theorem wpl_clear {P : Program} {w : World} {ops : Array Oper} {rest : List Oper} {o : Oper} {a : Act} {Q : Exit → Act → World → Prop} (hgd : o.guard = none) (x : Operand) (t : TypeId)
    (ho : o.op = .call { callee := .builtin .clear, args := #[x], argTypes := #[t] })
    (e : TypeId) (z : Value) (zs : List Value) (ht : P.underlying t = some (.slice e)) (hv : ∀ w, (zeroValue e).run P w = .ok z w) (hz : z.cells = zs.toArray) (h1 : ∀ v ∈ zs, v.oneCell' = true) (b off c : Nat) (hx : a.eval x = .slice (some ⟨b, off, none⟩) 1 c)
    (hc : ∀ j, j < zs.length → (w.cell? ⟨b, off + j, none⟩).isSome = true) (hf : ∀ j, j < zs.length → w.frozen? ⟨b, off + j, none⟩ = false)
    (h : wpList P ops Q rest (a.put o.dst (.tuple #[])) (w.setCells b off zs)) : wpList P ops Q (o :: rest) a w :=
  wpList_plain hgd fun _ hK => by
    have hrun := run_clear_one (P := P) w t e o.type z zs ht hv hz h1 b off c hc hf
    unfold Oper.wp execOp
    simp only [ho, resolve, invoke, builtin, Sem.run_bind, Sem.run_pure, Result.andThen_ok, List.map_toArray, List.map_cons, List.map_nil, hx, hrun]
    exact hK _ _ h
theorem own_one {S : Nat → Prop} {w : World} {l : List Pr} {xs : List Value} (hl : xs.length = l.length * 2) (h : ∀ i (h : i < l.length), PairR S w ((xs.drop (i * 2)).take 2) l[i]) : ∀ u ∈ xs, u.oneCell' = true := by
  intro u hu
  obtain ⟨j, hj, rfl⟩ := List.mem_iff_getElem.1 hu
  obtain ⟨A, c, V, d, hcs, _⟩ := h (j / 2) (by omega)
  have hin : xs[j] ∈ (xs.drop (j / 2 * 2)).take 2 := by
    refine List.mem_iff_getElem?.2 ⟨j % 2, ?_⟩
    rw [List.getElem?_take_of_lt (by omega), List.getElem?_drop, show j / 2 * 2 + j % 2 = j by omega, List.getElem?_eq_getElem hj]
  rw [hcs] at hin
  simp only [List.mem_cons, List.not_mem_nil, or_false] at hin
  rcases hin with e | e <;> rw [e] <;> rfl
/-- What slices.Delete leaves. -/
def cut1 (l : List Pr) (i : Nat) : List Pr := l.take i ++ l.drop (i + 1)
theorem cut1_at (l : List Pr) (i p : Nat) (hi : i < l.length) : (cut1 l i)[p]? = if p < i then l[p]? else l[p + 1]? := by
  unfold cut1
  split
  · rename_i h
    rw [List.getElem?_append_left (by rw [List.length_take]; omega), List.getElem?_take_of_lt h]
  · rw [List.getElem?_append_right (by rw [List.length_take]; omega), List.getElem?_drop]
    congr 1
    rw [List.length_take]
    omega
end Go.Proofs.YtjidppcfjkjjoaaDoor
namespace Go.Proofs.YtjidppcfjkjjoaaDoor
open Go.RowKit
set_option linter.unusedVariables false
set_option linter.unusedSimpArgs false

theorem filter_cut {l : List Pr} {k : List UInt8} {i : Nat} (hr : Rise (keys l)) (hi : i < l.length) (h : l[i].1 = k) : l.filter (notKey k) = cut1 l i := by
  have hne : ∀ j (hj : j < l.length), j ≠ i → notKey k l[j] = true := by
    intro j hj hji
    have : l[j].1 ≠ k := fun e => hji (rise_inj hr (i := j) (j := i) (by simpa [keys] using hj) (by simpa [keys] using hi) (by simp [keys, e, h]))
    simpa [notKey] using this
  have e1 : l = l.take i ++ l[i] :: l.drop (i + 1) := by rw [← List.drop_eq_getElem_cons hi, List.take_append_drop]
  have h0 : notKey k l[i] = false := by simp [notKey, h]
  conv => lhs; rw [e1]
  rw [List.filter_append, List.filter_cons, if_neg (by simp [h0])]
  unfold cut1
  congr 1
  · refine List.filter_eq_self.2 fun p hp => ?_
    obtain ⟨j, hj, rfl⟩ := List.mem_iff_getElem.1 hp
    rw [List.length_take] at hj
    rw [List.getElem_take]
    exact hne j (by omega) (by omega)
  · refine List.filter_eq_self.2 fun p hp => ?_
    obtain ⟨j, hj, rfl⟩ := List.mem_iff_getElem.1 hp
    rw [List.length_drop] at hj
    rw [List.getElem_drop]
    exact hne _ (by omega) (by omega)
theorem filter_none {l : List Pr} {k : List UInt8} {i : Nat} (hr : Rise (keys l)) (hat : At (keys l) k i) (h : (keys l)[i]? ≠ some k) : l.filter (notKey k) = l := by
  refine List.filter_eq_self.2 fun p hp => ?_
  obtain ⟨j, hj, rfl⟩ := List.mem_iff_getElem.1 hp
  have hjk : j < (keys l).length := by simpa [keys] using hj
  have hne : l[j].1 ≠ k := by
    intro e
    have ek : (keys l)[j] = k := by simp [keys, e]
    rcases (by omega : j < i ∨ j = i ∨ i < j) with h1 | h1 | h1
    · have := hat.low j h1 hjk
      rw [ek, lt_irrefl] at this
      cases this
    · subst h1
      exact h (by rw [List.getElem?_eq_getElem hjk, ek])
    · have h2 := hat.high i (Nat.le_refl _) (by omega)
      have h3 := hr i j h1 hjk
      rw [ek, h2] at h3
      cases h3
  simpa [notKey] using hne
theorem delS_len (l : List Pr) (k : List UInt8) : (delS l k).1.length ≤ l.length := by
  unfold delS
  split
  · simp
  · exact List.length_filter_le _ _
end Go.Proofs.YtjidppcfjkjjoaaDoor
namespace Go.Proofs.YtjidppcfjkjjoaaDoor
open Go.RowKit
set_option linter.unusedVariables false
set_option linter.unusedSimpArgs false

theorem putS_len (l : List Pr) (p : Pr) : (putS l p).1.length ≤ 2 * l.length + 1 := by
  unfold putS
  split
  · simp
  · split
    · simp
    · exact putAll_len p l
end Go.Proofs.YtjidppcfjkjjoaaDoor
