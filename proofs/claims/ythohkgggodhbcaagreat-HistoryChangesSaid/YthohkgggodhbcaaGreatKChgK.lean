/- ChgK: Walk: the library's slices.CompactFunc at a row of writes that the call owns, with the closure of history.places: each place once. The conditions of each are in its words. -/
import Derived.Shelf.SlSortCmp.QuietGrown
import Derived.Test.YthohkgggodhbcaaGreatKChgC
import Derived.Test.YthohkgggodhbcaaGreatKTrees
import Derived.Test.YthohkgggodhbcaaGreatKTreeW
namespace Go.Proofs.YthohkgggodhbcaaGreat
open Go.RowKit Go.Sort
set_option linter.unusedVariables false
set_option linter.unusedSimpArgs false

theorem zero_wr (w : World) : (zeroValue 40).run Tryz.prog w = .ok (.agg #[.slice none 0 0, .slice none 0 0, .bool false, .slice none 0 0]) w := by
  obtain ⟨i0, hi0, hz0, _, _⟩ := info_parts info_wr
  simp [zeroValue, typeInfo, hi0, hz0]
theorem run_clear_n {P : Program} (w : World) (t e ty : TypeId) (z : Value) (vs : List Value) (n : Nat) (h0 : 0 < n) (ht : P.underlying t = some (.slice e)) (hv : ∀ w, (zeroValue e).run P w = .ok z w) (hz : (Builtin.zeroCells z.cells n).toList = vs) (h1 : ∀ v ∈ vs, v.oneCell' = true) (b o c : Nat)
    (hc : ∀ j, j < vs.length → (w.cell? ⟨b, o + j, none⟩).isSome = true) (hf : ∀ j, j < vs.length → w.frozen? ⟨b, o + j, none⟩ = false) :
    (Builtin.clear_ #[t] ty #[.slice (some ⟨b, o, none⟩) n c]).run P w = .ok (.tuple #[]) (w.setCells b o vs) := by
  have hst := run_storeCells_cells (P := P) b o vs 0 w (by simpa using hc) (by simpa using hf) h1
  simp only [Nat.add_zero] at hst
  obtain ⟨m, rfl⟩ : ∃ m, n = m + 1 := ⟨n - 1, by omega⟩
  simp [Builtin.clear_, run_underlying ht, hv, hz, hst]
theorem wpl_clear_n {P : Program} {w : World} {ops : Array Oper} {rest : List Oper} {o : Oper} {a : Act} {Q : Exit → Act → World → Prop} (hgd : o.guard = none) (x : Operand) (t : TypeId)
    (ho : o.op = .call { callee := .builtin .clear, args := #[x], argTypes := #[t] })
    (e : TypeId) (z : Value) (vs : List Value) (n : Nat) (h0 : 0 < n) (ht : P.underlying t = some (.slice e)) (hv : ∀ w, (zeroValue e).run P w = .ok z w) (hz : (Builtin.zeroCells z.cells n).toList = vs) (h1 : ∀ v ∈ vs, v.oneCell' = true) (b off c : Nat) (hx : a.eval x = .slice (some ⟨b, off, none⟩) n c)
    (hc : ∀ j, j < vs.length → (w.cell? ⟨b, off + j, none⟩).isSome = true) (hf : ∀ j, j < vs.length → w.frozen? ⟨b, off + j, none⟩ = false)
    (h : wpList P ops Q rest (a.put o.dst (.tuple #[])) (w.setCells b off vs)) : wpList P ops Q (o :: rest) a w :=
  wpList_plain hgd fun _ hK => by
    have hrun := run_clear_n (P := P) w t e o.type z vs n h0 ht hv hz h1 b off c hc hf
    unfold Oper.wp execOp
    simp only [ho, resolve, invoke, builtin, Sem.run_bind, Sem.run_pure, Result.andThen_ok, List.map_toArray, List.map_cons, List.map_nil, hx, hrun]
    exact hK _ _ h
/-- The empty cells of so many writes. -/
def zerosW (n : Nat) : List Value := (Builtin.zeroCells (Value.agg #[.slice none 0 0, .slice none 0 0, .bool false, .slice none 0 0]).cells n).toList
theorem zerosW_len (n : Nat) : (zerosW n).length = n * 4 := by
  simp [zerosW, Builtin.zeroCells, Value.cells]
  first | done | omega
theorem zerosW_one (n : Nat) : ∀ v ∈ zerosW n, v.oneCell' = true := by
  intro v hv
  simp only [zerosW, Builtin.zeroCells, Value.cells] at hv
  obtain ⟨i, hi, rfl⟩ := List.mem_iff_getElem.1 hv
  simp only [Array.getElem_toList, Array.getElem_map, Array.getElem_range]
  have h4 : i % 4 = 0 ∨ i % 4 = 1 ∨ i % 4 = 2 ∨ i % 4 = 3 := by omega
  rcases h4 with h | h | h | h <;> simp [h, Value.oneCell']

/-- A row's element, as it lies. -/
theorem ownW_at {S : Nat → Prop} {w : World} {base g cap : Nat} {l : List Wr} (h : Own 4 WrR S w base 40 (.slice (some ⟨g, 0, none⟩) l.length cap) l) {j : Nat} (hj : j < l.length) :
    ∃ A a B b C c, w.cell? ⟨g, j * 4, none⟩ = some (.slice A l[j].name.length a) ∧ w.cell? ⟨g, j * 4 + 1, none⟩ = some (.slice B l[j].key.length b) ∧ w.cell? ⟨g, j * 4 + 2, none⟩ = some (.bool l[j].flag) ∧ w.cell? ⟨g, j * 4 + 3, none⟩ = some (.slice C l[j].value.length c) ∧ WrR (fun b => S b ∧ b ≠ g) w [.slice A l[j].name.length a, .slice B l[j].key.length b, .bool l[j].flag, .slice C l[j].value.length c] l[j] ∧ Bs All w A l[j].name ∧ Bs All w B l[j].key := by
  obtain ⟨g', cap', cur, css, hv, hg, hlt, hh, hcap, hmx, hcur, ht, hw, he⟩ := h.row wrR_stays (by omega)
  cases hv
  have hcl : css.length = l.length := he.length
  have hR := he.get j (by omega) hj
  have hf := flat_at hw j (by omega)
  have hc : ∀ t, t < 4 → w.cell? ⟨g, j * 4 + t, none⟩ = (css[j]'(by omega))[t]? := by
    intro t ht4
    have h1 := box_cell (cs := cur.toList) (w := w) (g := g) (t := 40) (by simpa using hh) (j * 4 + t)
    rw [h1, ← hf, List.getElem?_take_of_lt ht4, List.getElem?_drop, ← ht, List.getElem?_take_of_lt (by omega)]
  obtain ⟨A, a, B, b, C, c, hx, hr⟩ := hR
  rw [hx] at hc
  exact ⟨A, a, B, b, C, c, hc 0 (by omega), hc 1 (by omega), hc 2 (by omega), hc 3 (by omega), ⟨A, a, B, b, C, c, rfl, hr⟩, hr.1.bz, hr.2.1.bz⟩
theorem own_block {S : Nat → Prop} {w : World} {base g cap : Nat} {l : List Wr} (h : Own 4 WrR S w base 40 (.slice (some ⟨g, 0, none⟩) l.length cap) l) (hl : 0 < l.length) : ∃ cur : Array Value, w.heap[g]? = some (.cells cur 40 (0, 0)) ∧ cur.size = cap * 4 ∧ base ≤ g ∧ g < w.heap.size ∧ l.length ≤ cap ∧ cap ≤ maxLen := by
  obtain ⟨g', cap', cur, css, hv, hg, hlt, hh, hcap, hmx, hcur, _⟩ := h.row wrR_stays hl
  cases hv
  exact ⟨cur, hh, hcur, hg, hlt, hcap, hmx⟩
/-- A head of the row, behind whatever is written behind it. -/
theorem own_head {S : Nat → Prop} {w : World} {base g cap : Nat} {l : List Wr} (h : Own 4 WrR S w base 40 (.slice (some ⟨g, 0, none⟩) l.length cap) l) {k : Nat} (hk : k ≤ l.length) (hl : 0 < l.length) (vs : List Value) (hvs : k * 4 + vs.length ≤ cap * 4) : Own 4 WrR S (w.setCells g (k * 4) vs) base 40 (.slice (some ⟨g, 0, none⟩) k cap) (l.take k) := by
  obtain ⟨g', cap', cur, css, hv, hg, hlt, hh, hcap, hmx, hcur, ht, hw, he⟩ := h.row wrR_stays hl
  cases hv
  have hcl : css.length = l.length := he.length
  have hh' := heap_setCells_row vs (k * 4) cur w hh (by omega)
  have hs : Same (fun b => S b ∧ b ≠ g) w (w.setCells g (k * 4) vs) := Same.setCells (by simp) _ _ (Same.refl _ _)
  have hlk : (l.take k).length = k := by rw [List.length_take]; omega
  have hkc : k * 4 ≤ l.length * 4 := Nat.mul_le_mul_right _ hk
  have hll : l.length * 4 ≤ cap * 4 := Nat.mul_le_mul_right _ hcap
  have key := Own.mk_row (S := S) (base := base) (e := 40) (l := l.take k) (cap := cap) (css := css.take k) (hw.take k) ((he.take k).mono fun c x hx => wrR_stays.same _ _ _ _ _ hs hx) hg hh' (by omega) hmx (by simp; omega) (by
    rw [hlk, ← flat_take hw k (by omega), ← ht, List.take_take, Nat.min_eq_left (by omega)]
    simp only [List.append_assoc]
    rw [List.take_append_of_le_length (by rw [List.length_take]; simp; omega), List.take_take, Nat.min_self]) wrR_stays
  rw [hlk] at key
  exact key
/-! ### the plain law of its two loops -/
def sameAt (x y : Wr) : Bool := x.name == y.name && x.key == y.key
theorem sameAt_comm (x y : Wr) : sameAt x y = sameAt y x := by
  unfold sameAt
  rw [Bool.beq_comm (a := x.name), Bool.beq_comm (a := x.key)]
theorem compFrom_same {p y : Wr} {l : List Wr} (h : sameAt y p = true) : compFrom p (y :: l) = compFrom y l := by
  rw [sameAt_comm] at h
  rw [compFrom]
  exact if_pos h
theorem compFrom_other {p y : Wr} {l : List Wr} (h : sameAt y p = false) : compFrom p (y :: l) = y :: compFrom y l := by
  rw [sameAt_comm] at h
  rw [compFrom]
  exact if_neg (by rw [show (p.name == y.name && p.key == y.key) = sameAt p y from rfl, h]; simp)
/-- Up to here no place comes twice. -/
def UpTo (l : List Wr) (j : Nat) : Prop := ∃ h : j < l.length, compS l = l.take (j + 1) ++ compFrom l[j] (l.drop (j + 1))
theorem upTo_zero {l : List Wr} (h : 0 < l.length) : UpTo l 0 := by
  refine ⟨h, ?_⟩
  cases l with
  | nil => simp at h
  | cons x l => rfl
theorem upTo_next {l : List Wr} {j : Nat} (h : UpTo l j) (hj : j + 1 < l.length) (hs : sameAt l[j + 1] (l[j]'(by omega)) = false) : UpTo l (j + 1) := by
  obtain ⟨h0, h1⟩ := h
  refine ⟨hj, ?_⟩
  rw [h1, List.drop_eq_getElem_cons hj, compFrom_other hs, take_snoc l (j + 1) hj, List.append_assoc]
  rfl
theorem upTo_end {l : List Wr} {j : Nat} (h : UpTo l j) (hj : ¬ j + 1 < l.length) : compS l = l := by
  obtain ⟨h0, h1⟩ := h
  rw [h1, List.drop_eq_nil_of_le (by omega), List.take_of_length_le (by omega)]
  simp [compFrom]
/-- Behind the first that comes twice: so many are written, so many are read. -/
def Down (l m : List Wr) (k r : Nat) : Prop := ∃ h : r < l.length, k ≤ r ∧ m.length = l.length ∧ m.drop r = l.drop r ∧ compS l = m.take k ++ compFrom l[r] (l.drop (r + 1))
theorem down_start {l : List Wr} {j : Nat} (h : UpTo l j) (hj : j + 1 < l.length) (hs : sameAt l[j + 1] (l[j]'(by omega)) = true) : Down l l (j + 1) (j + 1) := by
  obtain ⟨h0, h1⟩ := h
  refine ⟨hj, Nat.le_refl _, rfl, rfl, ?_⟩
  rw [h1, List.drop_eq_getElem_cons hj, compFrom_same hs]
theorem down_same {l m : List Wr} {k r : Nat} (h : Down l m k r) (hr : r + 1 < l.length) (hs : sameAt l[r + 1] (l[r]'(by omega)) = true) : Down l m k (r + 1) := by
  obtain ⟨h0, h1, h2, h3, h4⟩ := h
  refine ⟨hr, by omega, h2, by rw [← List.drop_drop, h3, List.drop_drop], ?_⟩
  rw [h4, List.drop_eq_getElem_cons hr, compFrom_same hs]
theorem down_at {l m : List Wr} {k r t : Nat} (h : Down l m k r) (ht : r ≤ t) (h1 : t < m.length) (h2 : t < l.length) : m[t] = l[t] := by
  obtain ⟨_, _, _, h3, _⟩ := h
  have e := congrArg (fun q => q[t - r]?) h3
  simp only [List.getElem?_drop, show r + (t - r) = t by omega, List.getElem?_eq_getElem h1, List.getElem?_eq_getElem h2] at e
  exact Option.some.inj e
theorem down_other {l m : List Wr} {k r : Nat} (h : Down l m k r) (hr : r + 1 < l.length) (hs : sameAt l[r + 1] (l[r]'(by omega)) = false) : Down l (m.set k l[r + 1]) (k + 1) (r + 1) := by
  obtain ⟨h0, h1, h2, h3, h4⟩ := h
  refine ⟨hr, by omega, by simpa using h2, ?_, ?_⟩
  · rw [List.drop_set_of_lt (by omega), ← List.drop_drop, h3, List.drop_drop]
  · rw [h4, List.drop_eq_getElem_cons hr, compFrom_other hs, List.take_succ_eq_append_getElem (i := k) (by simp; omega)]
    simp [List.take_set_of_le (Nat.le_refl k)]
theorem down_end {l m : List Wr} {k r : Nat} (h : Down l m k r) (hr : ¬ r + 1 < l.length) : compS l = m.take k := by
  obtain ⟨h0, h1, h2, h3, h4⟩ := h
  rw [h4, List.drop_eq_nil_of_le (by omega)]
  simp [compFrom]
theorem comp_short {l : List Wr} (h : l.length < 2) : compS l = l := by
  cases l with
  | nil => rfl
  | cons x l =>
    cases l with
    | nil => rfl
    | cons y l => exact absurd h (by simp)
set_option maxRecDepth 100000 in
set_option maxHeartbeats 4000000 in
theorem compactW_ok (w : World) (base : Nat) (S : Nat → Prop) (v : Value) (l : List Wr) (hown : Own 4 WrR S w base 40 v l) (hn : l.length ≤ big) :
    Calls Tryz.prog 26 #[v, .func (.func 27) #[] #[]] w fun e w' => ∃ v', e = .returned v' ∧ Own 4 WrR S w' base 40 v' (compS l) ∧ Below base w w' := by
  unfold big at hn
  by_cases h2 : l.length < 2
  · have Hc := Lib.hid (comp_short h2)
    have Hown := Lib.hid hown
    obtain ⟨p, c, rfl⟩ := own_slice hown
    have h2i : (l.length : Int) < 2 := by omega
    clear hown
    go_enter Tryz.func26, Tryz.ntmps26
    go_wp2
    go_ret
    rw [Hc.out]
    exact ⟨_, rfl, Hown.out, Below.refl _ _⟩
  have h0 : 0 < l.length := by omega
  obtain ⟨g, cap, cur, css, rfl, hbg, hglt, hh, hcap, hmx, hcur, hrest⟩ := hown.row wrR_stays h0
  clear hrest hcur hh css cur
  have h2i : ¬ (l.length : Int) < 2 := by omega
  have Hown := Lib.hid hown
  have Hmx := Lib.hid hmx
  clear hown hmx
  obtain ⟨N, hN⟩ : ∃ N, N = l.length := ⟨_, rfl⟩
  rw [← hN] at hcap h2i hn
  have HN := Lib.hid hN
  go_enter Tryz.func26, Tryz.ntmps26
  rw [← hN]
  clear hN
  go_wp2
  go_loopw [5] (fun i wr => ∃ j : Nat, i = .int .i64 ((j : Int) + 1) ∧ UpTo l j ∧ Own 4 WrR S wr base 40 (.slice (some ⟨g, 0, none⟩) l.length cap) l ∧ Below base w wr ∧ g < wr.heap.size) (fun i _ => N - (intOf i).toNat)
  case atStart => exact ⟨0, rfl, upTo_zero h0, Hown.out, Below.refl _ _, hglt⟩
  case round =>
    obtain ⟨j, rfl, hup, hown, hbel, hglt2⟩ := hrel
    have Hup := Lib.hid hup
    have Hown2 := Lib.hid hown
    have Hbel := Lib.hid hbel
    have hjl : j < l.length := hup.1
    clear hup hown hbel
    by_cases hlt : j + 1 < l.length
    · obtain ⟨A, a, B, b, C, c, c0, c1, c2, c3, _, x1, x2⟩ := ownW_at Hown2.out hlt
      obtain ⟨A', a', B', b', C', c', d0, d1, d2, d3, _, y1, y2⟩ := ownW_at Hown2.out hjl
      have Hx1 := Lib.hid x1
      have Hx2 := Lib.hid x2
      have Hy1 := Lib.hid y1
      have Hy2 := Lib.hid y2
      have Hnext := Lib.hid (fun hs => upTo_next Hup.out hlt hs)
      have Hdown := Lib.hid (fun hs => down_start Hup.out hlt hs)
      clear x1 x2 y1 y2
      generalize l[j + 1] = x at *
      generalize l[j] = y at *
      have c0 := fun n os => cell_grown (n := n) (os := os) hglt2 c0
      have c1 := fun n os => cell_grown (n := n) (os := os) hglt2 c1
      have c2 := fun n os => cell_grown (n := n) (os := os) hglt2 c2
      have c3 := fun n os => cell_grown (n := n) (os := os) hglt2 c3
      have d0 := fun n os => cell_grown (n := n) (os := os) hglt2 d0
      have d1 := fun n os => cell_grown (n := n) (os := os) hglt2 d1
      have d2 := fun n os => cell_grown (n := n) (os := os) hglt2 d2
      have d3 := fun n os => cell_grown (n := n) (os := os) hglt2 d3
      have hlN : (j : Int) + 1 < (N : Int) := by rw [HN.out]; omega
      have e1 : ((j : Int) + 1).toNat = j + 1 := by omega
      have e2 : (0 : Int) ≤ (j : Int) + 1 := by omega
      have e3 : (0 : Int) ≤ (j : Int) := by omega
      have e4 : (j : Int) < (N : Int) := by omega
      have e5 : IntKind.i64.wrap (j : Int) = (j : Int) := by rw [IntKind.wrap_i64]; omega
      rcases Bool.eq_false_or_eq_true (sameAt x y) with he | he
      · have Hd := Lib.hid (Hdown.out he)
        have He := Lib.hid he
        clear Hdown Hnext he
        go_wp2_with fail
        have hmix : Tryz.prog.follows .mixedOrders = true := by kernel_rfl
        go_quiet_grown (first | (go_at_call 27; exact Calls.grown_of ((samePlace_ok _ A B C A' B' C' x y a b c a' b' c' (Hx1.out.bbelow (Grw.below ⟨_, _, rfl⟩)) (Hx2.out.bbelow (Grw.below ⟨_, _, rfl⟩)) (Hy1.out.bbelow (Grw.below ⟨_, _, rfl⟩)) (Hy2.out.bbelow (Grw.below ⟨_, _, rfl⟩))).mono fun e w' h => ⟨h.1.trans (ret_bool He.out), h.2⟩)))
        have hgb : Below wr.heap.size wr (grow (wr.drewN nq) osq) := Grw.below ⟨_, _, rfl⟩
        generalize grow (wr.drewN nq) osq = wq at *
        have Hq := Lib.hid (Hown2.out.below wrR_stays hgb)
        have Hbq := Lib.hid (Hbel.out.trans (hgb.mono (by omega)))
        have hgq : g < wq.heap.size := by have := hgb.size; omega
        have hcne : ¬ cap = j + 1 := by rw [← HN.out] at hlt; omega
        have hjc : j + 1 ≤ cap := by omega
        have e6 : (j : Int) + 1 ≤ (N : Int) := by omega
        have HlN := Lib.hid hlN
        have hjN : j + 1 < N := by omega
        clear hgb c0 c1 c2 c3 d0 d1 d2 d3 Hx1 Hx2 Hy1 Hy2 Hown2 Hbel He hglt2
        go_wp2
        go_loopw [5, 7] (fun i i2 wr => ∃ (m : List Wr) (k q : Nat), i = .int .i64 k ∧ i2 = .int .i64 ((q : Int) + 1) ∧ Down l m k (j + 1 + q) ∧ j + 1 ≤ k ∧ Own 4 WrR S wr base 40 (.slice (some ⟨g, 0, none⟩) m.length cap) m ∧ Below base w wr ∧ g < wr.heap.size) (fun _ i2 _ => N - (intOf i2).toNat)
        case atStart => exact ⟨l, j + 1, 0, by go_num, by go_num, Hd.out, Nat.le_refl _, Hq.out, Hbq.out, hgq⟩
        case round =>
          obtain ⟨m, k, q, rfl, rfl, hdn, hjk, hown, hbel, hgl⟩ := hrel
          have Hdn := Lib.hid hdn
          have Hm := Lib.hid hown
          have Hbl := Lib.hid hbel
          obtain ⟨hrl, hkr, hml, hrest⟩ := hdn
          clear hrest
          have Hml := Lib.hid hml
          have hkN : k < N := by rw [HN.out]; omega
          have hmN : m.length = N := by rw [HN.out]; exact hml
          clear hown hbel
          by_cases hlt : j + 1 + q + 1 < l.length
          · have hltm : j + 1 + (q + 1) < m.length := by omega
            have hqm : j + 1 + q < m.length := by omega
            obtain ⟨A, a, B, b, C, c, c0, c1, c2, c3, cw, x1, x2⟩ := ownW_at Hm.out hltm
            obtain ⟨A', a', B', b', C', c', d0, d1, d2, d3, _, y1, y2⟩ := ownW_at Hm.out hqm
            obtain ⟨A'', a'', B'', b'', C'', c'', f0, f1, f2, f3, _, _, _⟩ := ownW_at Hm.out (j := k) (by omega)
            obtain ⟨cur, hcur, _⟩ := own_block Hm.out (by omega)
            have Hfr := Lib.hid (fun i => box_frozen (cs := cur.toList) (w := wr) (g := g) (t := 40) (by simpa using hcur) i)
            have Hx1 := Lib.hid x1
            have Hx2 := Lib.hid x2
            have Hy1 := Lib.hid y1
            have Hy2 := Lib.hid y2
            have Hcw := Lib.hid cw
            have Hsm := Lib.hid (fun hs => down_same Hdn.out hlt hs)
            have Hot := Lib.hid (fun hs => down_other Hdn.out hlt hs)
            have ex := down_at Hdn.out (t := j + 1 + (q + 1)) (by omega) hltm (by omega)
            have ey := down_at Hdn.out (t := j + 1 + q) (by omega) hqm (by omega)
            have exl : l[j + 1 + (q + 1)]'(by omega) = l[j + 1 + q + 1] := rfl
            rw [← exl] at Hsm Hot
            clear x1 x2 y1 y2 cw hcur exl
            rw [ex] at c0 c1 c2 c3 Hx1 Hx2 Hcw
            rw [ey] at d0 d1 d2 d3 Hy1 Hy2
            clear ex ey
            have o1 : (j + 1 + (q + 1)) * 4 = (j + 1) * 4 + (q + 1) * 4 := by omega
            have o2 : (j + 1 + q) * 4 = (j + 1) * 4 + q * 4 := by omega
            rw [o1] at c0 c1 c2 c3
            rw [o2] at d0 d1 d2 d3
            clear o1 o2
            generalize l[j + 1 + (q + 1)] = x at *
            generalize l[j + 1 + q] = y at *
            have C0 := Lib.hid (And.intro c0 (And.intro c1 (And.intro c2 c3)))
            have F0 := Lib.hid (And.intro f0 (And.intro f1 (And.intro f2 f3)))
            replace c0 := fun n os => cell_grown (n := n) (os := os) hgl c0
            replace c1 := fun n os => cell_grown (n := n) (os := os) hgl c1
            replace c2 := fun n os => cell_grown (n := n) (os := os) hgl c2
            replace c3 := fun n os => cell_grown (n := n) (os := os) hgl c3
            replace d0 := fun n os => cell_grown (n := n) (os := os) hgl d0
            replace d1 := fun n os => cell_grown (n := n) (os := os) hgl d1
            replace d2 := fun n os => cell_grown (n := n) (os := os) hgl d2
            replace d3 := fun n os => cell_grown (n := n) (os := os) hgl d3
            clear f0 f1 f2 f3
            have l0 : (q : Int) + 1 < ((N - (j + 1) : Nat) : Int) := by omega
            have l1 : ((q : Int) + 1).toNat = q + 1 := by omega
            have l2 : (0 : Int) ≤ (q : Int) + 1 := by omega
            have l3 : (0 : Int) ≤ (q : Int) := by omega
            have l4 : (q : Int) < ((N - (j + 1) : Nat) : Int) := by omega
            have l5 : IntKind.i64.wrap (q : Int) = (q : Int) := by rw [IntKind.wrap_i64]; omega
            have k0 : (0 : Int) ≤ (k : Int) := by omega
            have k1 : (k : Int) < (N : Int) := by omega
            rcases Bool.eq_false_or_eq_true (sameAt x y) with he | he
            · have Hn := Lib.hid (Hsm.out he)
              have He := Lib.hid he
              clear Hsm Hot he
              go_wp2_with fail
              have hmix : Tryz.prog.follows .mixedOrders = true := by kernel_rfl
              go_quiet_grown (first | (go_at_call 27; exact Calls.grown_of ((samePlace_ok _ A B C A' B' C' x y a b c a' b' c' (Hx1.out.bbelow (Grw.below ⟨_, _, rfl⟩)) (Hx2.out.bbelow (Grw.below ⟨_, _, rfl⟩)) (Hy1.out.bbelow (Grw.below ⟨_, _, rfl⟩)) (Hy2.out.bbelow (Grw.below ⟨_, _, rfl⟩))).mono fun e w' h => ⟨h.1.trans (ret_bool He.out), h.2⟩)))
              have hgb : Below wr.heap.size wr (grow (wr.drewN nq) osq) := Grw.below ⟨_, _, rfl⟩
              generalize grow (wr.drewN nq) osq = wq2 at *
              go_wp2
              go_roundw
              case rel => exact ⟨m, k, q + 1, rfl, by go_num, Hn.out, hjk, Hm.out.below wrR_stays hgb, Hbl.out.trans (hgb.mono (by omega)), by have := hgb.size; omega⟩
              case measure => simp [intOf]; omega
            · have Hn := Lib.hid (Hot.out he)
              have He := Lib.hid he
              clear Hsm Hot he
              go_wp2_with fail
              have hmix : Tryz.prog.follows .mixedOrders = true := by kernel_rfl
              go_quiet_grown (first | (go_at_call 27; exact Calls.grown_of ((samePlace_ok _ A B C A' B' C' x y a b c a' b' c' (Hx1.out.bbelow (Grw.below ⟨_, _, rfl⟩)) (Hx2.out.bbelow (Grw.below ⟨_, _, rfl⟩)) (Hy1.out.bbelow (Grw.below ⟨_, _, rfl⟩)) (Hy2.out.bbelow (Grw.below ⟨_, _, rfl⟩))).mono fun e w' h => ⟨h.1.trans (ret_bool He.out), h.2⟩)))
              have hgb : Below wr.heap.size wr (grow (wr.drewN nq) osq) := Grw.below ⟨_, _, rfl⟩
              generalize grow (wr.drewN nq) osq = wq2 at *
              have hgz := hgb.size
              have hg2 : g < wq2.heap.size := by omega
              obtain ⟨c0, c1, c2, c3⟩ := C0.out
              replace c0 := (hgb.cell hgl).trans c0
              replace c1 := (hgb.cell hgl).trans c1
              replace c2 := (hgb.cell hgl).trans c2
              replace c3 := (hgb.cell hgl).trans c3
              obtain ⟨f0, f1, f2, f3⟩ := F0.out
              replace f0 := (hgb.cell hgl).trans f0
              replace f1 := (hgb.cell hgl).trans f1
              replace f2 := (hgb.cell hgl).trans f2
              replace f3 := (hgb.cell hgl).trans f3
              have Hm2 := Lib.hid (Hm.out.below wrR_stays hgb)
              obtain ⟨cur, hcur, _⟩ := own_block Hm2.out (by omega)
              have hfr := fun i => box_frozen (cs := cur.toList) (w := wq2) (g := g) (t := 40) (by simpa using hcur) i
              have z0 := hfr (k * 4)
              have z1 := hfr (k * 4 + 1)
              have z2 := hfr (k * 4 + 2)
              have z3 := hfr (k * 4 + 3)
              clear hfr hcur
              have Hput := Lib.hid (Hm2.out.put wrR_stays (i := k) (by omega) (c := [.slice A x.name.length a, .slice B x.key.length b, .bool x.flag, .slice C x.value.length c]) rfl (x := x) (wrR_stays.same _ _ _ _ _ (Same.of_below hgb) Hcw.out))
              have Hb2 := Lib.hid (below_setCells' hbg [.slice A x.name.length a, .slice B x.key.length b, .bool x.flag, .slice C x.value.length c] (k * 4) (Hbl.out.trans (hgb.mono (by omega))))
              clear hmix
              go_wp2
              go_roundw
              case rel => exact ⟨m.set k x, k + 1, q + 1, by go_num, by go_num, Hn.out, by omega, by rw [List.length_set]; exact Hput.out, Hb2.out, by simp; omega⟩
              case measure => simp [intOf]; omega
          · have Hc := Lib.hid (down_end Hdn.out hlt)
            have l0 : ¬ (q : Int) + 1 < ((N - (j + 1) : Nat) : Int) := by omega
            have k0 : (0 : Int) ≤ (k : Int) := by omega
            have k1 : (k : Int) ≤ (N : Int) := by omega
            have kc : k ≤ cap := by omega
            have kne : ¬ cap = k := by omega
            obtain ⟨cur, hcur, hcz, _⟩ := own_block Hm.out (by omega)
            have Hc2 := Lib.hid (show ∀ t, t < (zerosW (N - k)).length → (wr.cell? ⟨g, k * 4 + t, none⟩).isSome = true from fun t ht => by
              rw [zerosW_len] at ht
              rw [box_cell (cs := cur.toList) (w := wr) (g := g) (t := 40) (by simpa using hcur) (k * 4 + t), List.getElem?_eq_getElem (by simp; omega)]
              rfl)
            have Hf2 := Lib.hid (show ∀ t, t < (zerosW (N - k)).length → wr.frozen? ⟨g, k * 4 + t, none⟩ = false from fun t _ => box_frozen (cs := cur.toList) (w := wr) (g := g) (t := 40) (by simpa using hcur) _)
            clear hcur
            go_wp2_with (refine wpl_clear_n rfl _ _ rfl 40 _ (zerosW (N - k)) (N - k) (by omega) Tryz.underlying24 zero_wr rfl (zerosW_one _) g (k * 4) (cap - k) ?hx Hc2.out Hf2.out ?_; (case hx => simp [Act.eval]))
            go_ret
            refine ⟨.slice (some ⟨g, 0, none⟩) k cap, rfl, ?_, below_setCells' hbg _ _ Hbl.out⟩
            have hfin := own_head Hm.out (k := k) (by omega) (by omega) (zerosW (N - k)) (by rw [zerosW_len]; omega)
            rw [← Hc.out] at hfin
            exact hfin
      · have Hn := Lib.hid (Hnext.out he)
        have He := Lib.hid he
        clear Hdown Hnext he
        go_wp2_with fail
        have hmix : Tryz.prog.follows .mixedOrders = true := by kernel_rfl
        go_quiet_grown (first | (go_at_call 27; exact Calls.grown_of ((samePlace_ok _ A B C A' B' C' x y a b c a' b' c' (Hx1.out.bbelow (Grw.below ⟨_, _, rfl⟩)) (Hx2.out.bbelow (Grw.below ⟨_, _, rfl⟩)) (Hy1.out.bbelow (Grw.below ⟨_, _, rfl⟩)) (Hy2.out.bbelow (Grw.below ⟨_, _, rfl⟩))).mono fun e w' h => ⟨h.1.trans (ret_bool He.out), h.2⟩)))
        have hgb : Below wr.heap.size wr (grow (wr.drewN nq) osq) := Grw.below ⟨_, _, rfl⟩
        generalize grow (wr.drewN nq) osq = wq at *
        go_wp2
        go_roundw
        case rel => exact ⟨j + 1, by go_num, Hn.out, Hown2.out.below wrR_stays hgb, Hbel.out.trans (hgb.mono (by omega)), by have := hgb.size; omega⟩
        case measure => simp [intOf]; omega
    · have Hc := Lib.hid (upTo_end Hup.out hlt)
      have hlN : ¬ (j : Int) + 1 < (N : Int) := by rw [HN.out]; omega
      go_wp2
      go_ret
      rw [Hc.out]
      exact ⟨_, rfl, by rw [HN.out]; exact Hown2.out, Hbel.out⟩
end Go.Proofs.YthohkgggodhbcaaGreat
