/- TreeW: slices.Insert of one pair among pairs of the call's own: three roads. slices.Insert of one pair among pairs of the call's own: where there is no room; and all roads in one. Walks: PutOf of the references; tree.Put. Walks: a key taken out of pairs. slices.Delete of pairs. Walks: tree.Delete; the law TreeDeletes. Walks: tree.Put; the law TreePuts. The conditions of each are in its words. -/
import Derived.Shelf.Spec.SlicesInsert
import Derived.Lib.Overlaps
import Derived.Lib.AppendZerosOnto
import Derived.Test.YthohkgggodhbcaaGreatKBase
import Derived.Test.YthohkgggodhbcaaGreatKTrees
namespace Go.Proofs.YthohkgggodhbcaaGreat
open Go.RowKit
set_option linter.unusedVariables false
set_option linter.unusedSimpArgs false

theorem run_copy_chunks {P : Program} (w : World) (dT sT ty elem : TypeId) (size n : Nat) (b o dLen dCap : Nat) (a : Addr) (sLen sCap : Nat) (cs : List Value)
    (hu : P.underlying dT = some (.slice elem)) (hs : (P.info? elem).map (·.size) = some size) (hn : n = Nat.min sLen dLen) (hl : cs.length = n * size)
    (hsrc : ∀ j v, cs[j]? = some v → w.cell? (a.add j) = some v) (hc : ∀ j, j < cs.length → (w.cell? ⟨b, o + j, none⟩).isSome = true) (hf : ∀ j, j < cs.length → w.frozen? ⟨b, o + j, none⟩ = false) (h1 : ∀ v ∈ cs, v.oneCell' = true) :
    (Builtin.copy_ #[dT, sT] ty #[.slice (some ⟨b, o, none⟩) dLen dCap, .slice (some a) sLen sCap]).run P w = .ok (goInt n) (w.setCells b o cs) := by
  have hst := run_storeCells_cells (P := P) b o cs 0 w (by simpa using hc) (by simpa using hf) h1
  have hfc := run_firstCells_some (P := P) w size n a sLen sCap cs hl hsrc
  cases hq : P.info? elem with
  | none => simp [hq] at hs
  | some i =>
    have hi : i.size = size := by simpa [hq] using hs
    simp [Builtin.copy_, run_underlying hu, Builtin.lenOf, sizeOf, typeInfo, hq, hi, ← hn, hfc, hst]
theorem each_one {α : Type} {R : (Nat → Prop) → World → List Value → α → Prop} {S : Nat → Prop} {w : World} (hone : ∀ S w c x, R S w c x → ∀ u ∈ c, u.oneCell' = true) : ∀ {css : List (List Value)} {l : List α}, Each (R S w) css l → ∀ u ∈ css.flatten, u.oneCell' = true
  | [], [], _, u, hu => by simp at hu
  | c :: cs, x :: xs, h, u, hu => by
    rw [List.flatten_cons] at hu
    rcases List.mem_append.1 hu with h1 | h1
    · exact hone _ _ _ _ h.1 u h1
    · exact each_one hone h.2 u h1
  | [], _ :: _, h, _, _ => h.elim
  | _ :: _, [], h, _, _ => h.elim
theorem pairR_one : ∀ S w c x, PairR S w c x → ∀ u ∈ c, u.oneCell' = true := by
  rintro S w c x ⟨A, c1, B, d, rfl, _⟩ u hu
  simp only [List.mem_cons, List.not_mem_nil, or_false] at hu
  rcases hu with e | e <;> rw [e] <;> rfl
theorem shape_of_heap {w : World} {g : Nat} {t : TypeId} {cs : Array Value} (h : w.heap[g]? = some (.cells cs t (0, 0))) : w.shape? g = some (t, cs.size) := by
  simp [World.shape?, h]
theorem info_size {P : Program} {e : TypeId} {i0 : TypeInfo} {size : Nat} (hi : P.info? e = some i0) (hz : i0.size = size) : (P.info? e).map (·.size) = some size := by
  rw [hi]; simp [hz]
theorem sizeOf_run {P : Program} {e : TypeId} {i0 : TypeInfo} {size : Nat} (hi : P.info? e = some i0) (hz : i0.size = size) (w : World) : (Go.sizeOf e).run P w = .ok size w := by
  simp [Go.sizeOf, typeInfo, hi, hz]
theorem ins_cells {cur c : List Value} {css : List (List Value)} {n i : Nat} (hw : Wide 2 css) (hcl : css.length = n) (ht : cur.take (n * 2) = css.flatten) (hi : i ≤ n) (hc : c.length = 2) (hcur : (n + 1) * 2 ≤ cur.length) (news : List Value) (hnews : news = (css.drop i).flatten) :
    ((cur.take ((i + 1) * 2) ++ news ++ cur.drop ((i + 1) * 2 + news.length)).take (i * 2) ++ c ++ (cur.take ((i + 1) * 2) ++ news ++ cur.drop ((i + 1) * 2 + news.length)).drop (i * 2 + c.length)).take ((n + 1) * 2) = (css.take i ++ c :: css.drop i).flatten := by
  have hdl : news.length = (n - i) * 2 := by rw [hnews, flat_len (hw.drop i), List.length_drop, hcl]
  have e1 : (cur.take ((i + 1) * 2) ++ news ++ cur.drop ((i + 1) * 2 + news.length)).take (i * 2) = (css.take i).flatten := by
    rw [List.append_assoc, List.take_append_of_le_length (by rw [List.length_take]; omega), List.take_take, Nat.min_eq_left (by omega), ← flat_take hw i (by omega), ← ht, List.take_take, Nat.min_eq_left (by omega)]
  have e2 : (cur.take ((i + 1) * 2) ++ news ++ cur.drop ((i + 1) * 2 + news.length)).drop (i * 2 + c.length) = news ++ cur.drop ((i + 1) * 2 + news.length) := by
    rw [List.append_assoc, hc, show i * 2 + 2 = (cur.take ((i + 1) * 2)).length by rw [List.length_take]; omega, List.drop_left]
  have hl1 : (css.take i).flatten.length = i * 2 := by rw [flat_len (hw.take i), List.length_take]; omega
  have e3 : (css.take i ++ c :: css.drop i).flatten = (css.take i).flatten ++ c ++ news := by rw [List.flatten_append, List.flatten_cons, hnews, List.append_assoc]
  rw [e1, e2, e3, ← List.append_assoc]
  have hl2 : ((css.take i).flatten ++ c ++ news).length = (n + 1) * 2 := by rw [List.length_append, List.length_append, hl1, hc, hdl]; omega
  rw [← hl2, List.take_left]
theorem size_row (cur vs : List Value) (o k : Nat) (hk : k = o + vs.length) (h : k ≤ cur.length) : (cur.take o ++ vs ++ cur.drop k).toArray.size = cur.length := by
  simp only [List.size_toArray, List.length_append, List.length_take, List.length_drop]
  omega
theorem wide_ins {css : List (List Value)} {c : List Value} (hw : Wide 2 css) (hc : c.length = 2) (i : Nat) : Wide 2 (css.take i ++ c :: css.drop i) := by
  intro c' hc'
  rcases List.mem_append.1 hc' with h | h
  · exact hw _ (List.mem_of_mem_take h)
  · rcases List.mem_cons.1 h with rfl | h
    · exact hc
    · exact hw _ (List.mem_of_mem_drop h)
theorem each_ins {α : Type} {R : List Value → α → Prop} {css : List (List Value)} {l : List α} {c : List Value} {x : α} (h : Each R css l) (hx : R c x) (i : Nat) : Each R (css.take i ++ c :: css.drop i) (ins l i x) :=
  Each.append (cs' := c :: css.drop i) (l' := x :: l.drop i) ⟨hx, h.drop i⟩ (h.take i)
/-- What slices.Insert answers. -/
def RetIns {α : Type} (R : (Nat → Prop) → World → List Value → α → Prop) (E : TypeId) (base : Nat) (w : World) (l : List α) (e : Ending) (w' : World) : Prop :=
  ∃ v', e = .returned v' ∧ Own 2 R (From base) w' base E v' l ∧ Below base w w'
/-! ### behind all -/
set_option maxRecDepth 100000 in
set_option maxHeartbeats 1000000 in
theorem sinsert_end {α : Type} {R : (Nat → Prop) → World → List Value → α → Prop} (hR : Stays R) (hone : ∀ S w c x, R S w c x → ∀ u ∈ c, u.oneCell' = true) (w : World) (base : Nat) (v : Value) (l : List α) (x : α) (vb : Nat) (c : List Value) (T : TypeId)
    (hown : Own 2 R (From base) w base 50 v l) (hb : base ≤ w.heap.size) (hl : l.length ≤ 100000) (hvb : w.heap[vb]? = some (.cells c.toArray T (0, 0))) (hc : c.length = 2) (hx : R (fun b => From base b ∧ v.ownBlock ≠ some b) w c x) :
    Calls Tryz.prog 94 #[v, .int .i64 l.length, .slice (some ⟨vb, 0, none⟩) 1 1] w (RetIns R 50 base w (l ++ [x])) := by
  obtain ⟨i0, hi0, hz0, hz1, hz2⟩ := info_parts info_pair
  obtain ⟨A, cap, hv, hcap⟩ : ∃ A cap, v = .slice A l.length cap ∧ (A = none → cap = 0) := by
    obtain ⟨xs, h1, _⟩ := hown
    rcases h1.2 with ⟨rfl, h0⟩ | ⟨g, cap, cur, rfl, _⟩
    · exact ⟨none, 0, by rw [h0], fun _ => rfl⟩
    · exact ⟨_, cap, rfl, fun h => by cases h⟩
  have Hown := Lib.hid hown
  have Hx := Lib.hid hx
  have Hsrc := Lib.hid (show ∃ ad, some (⟨vb, 0, none⟩ : Addr) = some ad ∧ ∀ j u, c[j]? = some u → w.cell? (ad.add j) = some u from ⟨_, rfl, fun j u hu => by rw [add_at, Nat.zero_add, box_cell hvb, hu]⟩)
  have Hone := Lib.hid (hone _ _ _ _ hx)
  have Hv := Lib.hid hv
  have Hcap := Lib.hid hcap
  clear hown hx hvb hone
  have hsame : v = v := rfl
  rw [hv]
  clear hv hcap
  rcases A with _ | ⟨g, off, sp⟩
  all_goals
    go_enter Tryz.func94, Tryz.ntmps94
    go_wp2_with (at_builtin; refine wpl_snoc hR (S := From base) _ rfl _ _ _ rfl base 50 i0 _ 2 48 Tryz.underlying46 hi0 hz0 hz1 hz2 rfl (by decide) v l ?hs Hown.out (some ⟨vb, 0, none⟩) 1 c rfl hc Hsrc.out Hone.out (by unfold maxLen; omega) (by omega) hb x Hx.out ?_; (case hs => (rw [Hv.out]; rfl)); intro v1 w1 hown1 hbw1)
    all_goals
      go_ret
      exact ⟨v1, rfl, hown1, hbw1⟩
/-! ### there is room -/
set_option maxRecDepth 100000 in
set_option maxHeartbeats 2000000 in
theorem sinsert_room {α : Type} {R : (Nat → Prop) → World → List Value → α → Prop} (hR : Stays R) (hone : ∀ S w c x, R S w c x → ∀ u ∈ c, u.oneCell' = true) (w : World) (base : Nat) (l : List α) (i : Nat) (x : α) (g cap : Nat) (vb : Nat) (c : List Value) (T : TypeId)
    (hown : Own 2 R (From base) w base 50 (.slice (some ⟨g, 0, none⟩) l.length cap) l) (hi : i < l.length) (hroom : l.length < cap) (hvb : w.heap[vb]? = some (.cells c.toArray T (0, 0))) (hc : c.length = 2) (hne : vb ≠ g) (hx : R (fun b => From base b ∧ b ≠ g) w c x) :
    Calls Tryz.prog 94 #[.slice (some ⟨g, 0, none⟩) l.length cap, .int .i64 i, .slice (some ⟨vb, 0, none⟩) 1 1] w (RetIns R 50 base w (ins l i x)) := by
  obtain ⟨i0, hi0, hz0, hz1, hz2⟩ := info_parts info_pair
  obtain ⟨g', cap', cur, css, hv, hg, hlt, hh, hcap, hmx, hcur, ht, hw, he⟩ := hown.row hR (by omega)
  cases hv
  obtain ⟨n, hn⟩ : ∃ n, n = l.length := ⟨_, rfl⟩
  have hcl : css.length = n := by rw [hn]; exact he.length
  rw [← hn] at hi hroom hcap ht ⊢
  simp only [maxLen] at hmx
  have hcell : ∀ j, j < cap * 2 → (w.cell? ⟨g, j, none⟩).isSome = true := by
    intro j hj
    simp [World.cell?, hh, hcur, hj]
  have hcells : ∀ j, j < n * 2 → w.cell? ⟨g, j, none⟩ = css.flatten[j]? := by
    intro j hj
    rw [← ht, List.getElem?_take_of_lt hj, Array.getElem?_toList]
    simp [World.cell?, hh]
  have hfroz : ∀ j, w.frozen? ⟨g, j, none⟩ = false := fun j => by simp [World.frozen?, hh]
  have hov : ∀ lb cb, (callFunc 100 #[.slice (some ⟨vb, 0, none⟩) 1 1, .slice (some ⟨g, (i + 1) * 2, none⟩) lb cb]).run Tryz.prog w = .ok (.value (.bool false)) w := fun lb cb => by
    rw [run_callFunc_extern Tryz.func100 (by kernel_rfl) (by kernel_rfl) (by kernel_rfl) (e := Extern.SlicesOverlaps.overlaps #[46, 46] #[4]) (by kernel_rfl),
      Lib.run_overlaps_apart w 46 4 50 Tryz.underlying46 2 (sizeOf_run hi0 hz1) ⟨vb, 0, none⟩ ⟨g, (i + 1) * 2, none⟩ 1 1 lb cb hne T 50 _ _ (shape_of_heap hvb) (shape_of_heap hh) (by omega) (by simp [World.frozen?, hvb]) (by simp [World.frozen?, hvb])]
    rfl
  have hdf : css.flatten.drop (i * 2) = (css.drop i).flatten := flat_drop hw i (by omega)
  have hdl : (css.drop i).flatten.length = (n - i) * 2 := by rw [flat_len (hw.drop i), List.length_drop, hcl]
  obtain ⟨news, hnews⟩ : ∃ news, news = (css.drop i).flatten := ⟨_, rfl⟩
  rw [← hnews] at hdf hdl
  have hn1 : ∀ v ∈ news, v.oneCell' = true := by rw [hnews]; exact each_one hone (he.drop i)
  have hc1 : ∀ v ∈ c, v.oneCell' = true := hone _ _ _ _ hx
  have hsz : (Tryz.prog.info? 50).map (·.size) = some 2 := info_size hi0 hz1
  have hcp1 : ∀ ty dc sc, (Builtin.copy_ #[46, 46] ty #[.slice (some ⟨g, (i + 1) * 2, none⟩) (n - i) dc, .slice (some ⟨g, i * 2, none⟩) (n + 1 - i) sc]).run Tryz.prog w.drew = .ok (goInt ((n - i : Nat) : Int)) (w.drew.setCells g ((i + 1) * 2) news) := fun ty dc sc =>
    run_copy_chunks w.drew _ _ ty 50 2 (n - i) g ((i + 1) * 2) (n - i) dc ⟨g, i * 2, none⟩ (n + 1 - i) sc news Tryz.underlying46 hsz (by simp only [Nat.min_def]; split <;> omega) hdl
      (fun j v hj => by
        rw [add_at]
        have hjl := (List.getElem?_eq_some_iff.1 hj).1
        have := hcells (i * 2 + j) (by omega)
        show w.cell? _ = _
        rw [this, ← hj, ← hdf, List.getElem?_drop])
      (fun j hj => hcell _ (by omega)) (fun j hj => hfroz _) hn1
  obtain ⟨W1, hW1⟩ : ∃ W1, W1 = w.drew.setCells g ((i + 1) * 2) news := ⟨_, rfl⟩
  have hcp2 : ∀ ty dc, (Builtin.copy_ #[46, 46] ty #[.slice (some ⟨g, i * 2, none⟩) (n + 1 - i) dc, .slice (some ⟨vb, 0, none⟩) 1 1]).run Tryz.prog W1 = .ok (goInt ((1 : Nat) : Int)) (W1.setCells g (i * 2) c) := fun ty dc =>
    run_copy_chunks W1 _ _ ty 50 2 1 g (i * 2) (n + 1 - i) dc ⟨vb, 0, none⟩ 1 1 c Tryz.underlying46 hsz (by simp only [Nat.min_def]; split <;> omega) (by rw [hc])
      (fun j v hj => by
        rw [add_at, hW1, World.cell?_setCells_out g _ _ _ _ (fun h _ => absurd h hne), Nat.zero_add]
        show w.cell? _ = _
        rw [box_cell hvb, hj])
      (fun j hj => by rw [hW1]; exact World.isSome_setCells g news _ _ _ (hcell _ (by omega))) (fun j hj => by rw [hW1, World.frozen?_setCells]; exact hfroz _) hc1
  rw [← hW1] at hcp1
  have Hcp1 := Lib.hid hcp1
  have Hcp2 := Lib.hid hcp2
  have Hown := Lib.hid hown
  have Hrest := Lib.hid (And.intro hh (And.intro hcur (And.intro ht (And.intro hw (And.intro he hx)))))
  have HW1 := Lib.hid hW1
  have Hn := Lib.hid hn
  have Hcl := Lib.hid hcl
  have Hnews := Lib.hid hnews
  have Hdl := Lib.hid hdl
  have Hc := Lib.hid hc
  have Hlt := Lib.hid hlt
  clear hcp1 hcp2 hown hh hcur ht hw he hx hW1 hn hcl hnews hdl hc hcells hcell hfroz hdf hn1 hc1 hsz hvb hlt
  have hz2' : ((i : Int) == (n : Int)) = false := by simp; omega
  have hw0 : IntKind.i64.wrap ((n : Int) + 1) = (n : Int) + 1 := by rw [IntKind.wrap_i64]; omega
  have hw1 : IntKind.i64.wrap ((i : Int) + 1) = (i : Int) + 1 := by rw [IntKind.wrap_i64]; omega
  have hb0 : decide ((cap : Int) < (n : Int) + 1) = false := by simp; omega
  have hb1 : (0 : Int) ≤ (i : Int) + 1 := by omega
  have hb5 : (0 : Int) ≤ (n : Int) + 1 := by omega
  have hb6 : (n : Int) + 1 ≤ (cap : Int) := by omega
  have hin : i ≤ n := by omega
  have htn : ((i : Int) + 1).toNat = i + 1 := by omega
  have htn' : ((n : Int) + 1).toNat = n + 1 := by omega
  have hb2 : ¬ (cap = i + 1) := by omega
  have hb3 : (i : Int) ≤ (n : Int) + 1 := by omega
  have hb7 : (i : Int) + 1 ≤ (n : Int) + 1 := by omega
  have hb4 : ¬ (cap = i) := by omega
  go_enter Tryz.func94, Tryz.ntmps94
  go_wp2_with (simp only [hov])
  go_region_law ((refine step_copy_runI rfl (.tmp 73) (.tmp 76) 46 46 rfl (.slice (some ⟨g, (i + 1) * 2, none⟩) (n - i) (cap - (i + 1))) (.slice (some ⟨g, i * 2, none⟩) (n + 1 - i) (cap - i)) ?hd ?hx (Hcp1.out _ _ _) ?_); (case hd => simp [Act.eval, Act.put]); (case hx => simp [Act.eval, Act.put]))
  go_wp2_with (refine wpList_copy_runI _ rfl (.tmp 80) (.tmp 81) 46 46 rfl (.slice (some ⟨g, i * 2, none⟩) (n + 1 - i) (cap - i)) (.slice (some ⟨vb, 0, none⟩) 1 1) ?hd2 ?hx2 (Hcp2.out _ _) ?_; (case hd2 => simp [Act.eval, Act.put]); (case hx2 => simp [Act.eval, Act.put]))
  go_ret
  obtain ⟨hh, hcur, ht, hw, he, hx⟩ := Hrest.out
  have hil : (ins l i x).length = n + 1 := by rw [ins_len, Hn.out]
  have hh1 : W1.heap[g]? = some (.cells (cur.toList.take ((i + 1) * 2) ++ news ++ cur.toList.drop ((i + 1) * 2 + news.length)).toArray 50 (0, 0)) := by
    rw [HW1.out]
    exact heap_setCells_row news ((i + 1) * 2) cur w.drew hh (by rw [Hdl.out]; omega)
  have hl1 : (cur.toList.take ((i + 1) * 2) ++ news ++ cur.toList.drop ((i + 1) * 2 + news.length)).toArray.size = cap * 2 := by
    rw [size_row _ _ _ _ rfl (by rw [Hdl.out, Array.length_toList]; omega), Array.length_toList, hcur]
  have hh2 := heap_setCells_row c (i * 2) _ W1 hh1 (by rw [hl1, Hc.out]; omega)
  have hs : Same (fun b => From base b ∧ b ≠ g) w (W1.setCells g (i * 2) c) := by
    rw [HW1.out]
    exact Same.setCells (by simp) _ _ (Same.setCells (by simp) _ _ (Same.refl _ _).drew)
  have hbw : Below base w (W1.setCells g (i * 2) c) := by
    rw [HW1.out]
    exact below_setCells' hg _ _ (below_setCells' hg _ _ (Below.refl _ _).drew)
  refine ⟨.slice (some ⟨g, 0, none⟩) (n + 1) cap, rfl, ?_, hbw⟩
  rw [← hil]
  refine Own.mk_row (css := css.take i ++ c :: css.drop i) (wide_ins hw Hc.out i) ((each_ins he hx i).mono fun c' x' h' => hR.same _ _ _ _ _ hs h') hg hh2 (by omega) (by unfold maxLen; omega) ?_ ?_ hR
  · have hc2 := Hc.out
    rw [size_row _ _ _ _ rfl (by rw [hc2]; show i * 2 + 2 ≤ Array.size _; rw [hl1]; omega)]
    exact hl1
  · rw [hil]
    exact ins_cells hw Hcl.out ht (by omega) Hc.out (by rw [Array.length_toList, hcur]; omega) news Hnews.out
end Go.Proofs.YthohkgggodhbcaaGreat
namespace Go.Proofs.YthohkgggodhbcaaGreat
open Go.RowKit
set_option linter.unusedVariables false
set_option linter.unusedSimpArgs false

theorem grow_cells {row c : List Value} {css : List (List Value)} {n i : Nat} (hw : Wide 2 css) (hcl : css.length = n) (ht : row.take (i * 2) = (css.take i).flatten) (hi : i ≤ n) (hc : c.length = 2) (hrow : (n + 1) * 2 ≤ row.length) (news : List Value) (hnews : news = (css.drop i).flatten) :
    ((row.take (i * 2) ++ c ++ row.drop (i * 2 + c.length)).take ((i + 1) * 2) ++ news ++ (row.take (i * 2) ++ c ++ row.drop (i * 2 + c.length)).drop ((i + 1) * 2 + news.length)).take ((n + 1) * 2) = (css.take i ++ c :: css.drop i).flatten := by
  have hdl : news.length = (n - i) * 2 := by rw [hnews, flat_len (hw.drop i), List.length_drop, hcl]
  have hl1 : (css.take i).flatten.length = i * 2 := by rw [flat_len (hw.take i), List.length_take]; omega
  have e1 : (row.take (i * 2) ++ c ++ row.drop (i * 2 + c.length)).take ((i + 1) * 2) = (css.take i).flatten ++ c := by
    have : ((css.take i).flatten ++ c).length = (i + 1) * 2 := by rw [List.length_append, hl1, hc]; omega
    rw [ht, ← this, List.take_left]
  have e3 : (css.take i ++ c :: css.drop i).flatten = (css.take i).flatten ++ c ++ news := by rw [List.flatten_append, List.flatten_cons, hnews, List.append_assoc]
  rw [e1, e3]
  have hl2 : ((css.take i).flatten ++ c ++ news).length = (n + 1) * 2 := by rw [List.length_append, List.length_append, hl1, hc, hdl]; omega
  rw [← hl2, List.take_left]
set_option maxRecDepth 100000 in
set_option maxHeartbeats 2000000 in
theorem sinsert_grow {α : Type} {R : (Nat → Prop) → World → List Value → α → Prop} (hR : Stays R) (hone : ∀ S w c x, R S w c x → ∀ u ∈ c, u.oneCell' = true) (w : World) (base : Nat) (l : List α) (i : Nat) (x : α) (g cap : Nat) (vb : Nat) (c : List Value) (T : TypeId)
    (hown : Own 2 R (From base) w base 50 (.slice (some ⟨g, 0, none⟩) l.length cap) l) (hb : base ≤ w.heap.size) (hl : l.length ≤ 100000) (hi : i < l.length) (hroom : ¬ l.length < cap) (hvb : w.heap[vb]? = some (.cells c.toArray T (0, 0))) (hc : c.length = 2) (hx : R (fun b => From base b ∧ b ≠ g) w c x) :
    Calls Tryz.prog 94 #[.slice (some ⟨g, 0, none⟩) l.length cap, .int .i64 i, .slice (some ⟨vb, 0, none⟩) 1 1] w (RetIns R 50 base w (ins l i x)) := by
  obtain ⟨i0, hi0, hz0, hz1, hz2⟩ := info_parts info_pair
  obtain ⟨g', cap', cur, css, hv, hg, hlt, hh, hcap, hmx, hcur, ht, hw, he⟩ := hown.row hR (by omega)
  cases hv
  obtain ⟨n, hn⟩ : ∃ n, n = l.length := ⟨_, rfl⟩
  have hcl : css.length = n := by rw [hn]; exact he.length
  rw [← hn] at hi hroom hcap ht hl ⊢
  obtain rfl : cap = n := by omega
  clear hcap hroom
  have hvlt : vb < w.heap.size := (Array.getElem?_eq_some_iff.1 hvb).1
  have hcells : ∀ j, j < cap * 2 → w.cell? ⟨g, j, none⟩ = css.flatten[j]? := by
    intro j hj
    rw [← ht, List.getElem?_take_of_lt hj, Array.getElem?_toList]
    simp [World.cell?, hh]
  have hfi : css.flatten.take (i * 2) = (css.take i).flatten := flat_take hw i (by omega)
  have hfl : (css.take i).flatten.length = i * 2 := by rw [flat_len (hw.take i), List.length_take]; omega
  have hdf : css.flatten.drop (i * 2) = (css.drop i).flatten := flat_drop hw i (by omega)
  have hdl : (css.drop i).flatten.length = (cap - i) * 2 := by rw [flat_len (hw.drop i), List.length_drop, hcl]
  obtain ⟨news, hnews⟩ : ∃ news, news = (css.drop i).flatten := ⟨_, rfl⟩
  rw [← hnews] at hdf hdl
  have hn1 : ∀ v ∈ news, v.oneCell' = true := by rw [hnews]; exact each_one hone (he.drop i)
  have hc1 : ∀ v ∈ c, v.oneCell' = true := hone _ _ _ _ hx
  have hsz : (Tryz.prog.info? 50).map (·.size) = some 2 := info_size hi0 hz1
  have hold : (Builtin.firstCells i0.size i (.slice (some ⟨g, 0, none⟩) i cap)).run Tryz.prog w.drew = .ok (css.take i).flatten.toArray w.drew := by
    rw [hz1]
    exact run_firstCells_some w.drew 2 i ⟨g, 0, none⟩ i cap _ hfl (fun j v hj => by
      rw [add_at, Nat.zero_add]
      have hjl := (List.getElem?_eq_some_iff.1 hj).1
      show w.cell? _ = _
      rw [hcells j (by omega), ← hj, ← hfi, List.getElem?_take_of_lt (by omega)])
  have hkk : (cap : Int) + 1 - (i : Int) = ((cap + 1 - i : Nat) : Int) := by omega
  have hik : i + (cap + 1 - i) = cap + 1 := by omega
  obtain ⟨G, hG⟩ : ∃ G, G = grownCap w (cap + 1) cap 50 := ⟨_, rfl⟩
  have hGn : cap + 1 ≤ G := by rw [hG]; exact grownCap_ge w _ _ _
  have hG63 : G ≤ maxLen := by
    have := grownCap_le_maxLen w (cap + 1) cap 50 (by unfold maxLen; omega)
    rwa [← hG] at this
  obtain ⟨ROW, hROW⟩ : ∃ ROW : Array Value, ROW = (css.take i).flatten.toArray ++ Builtin.zeroCells (Value.agg #[.slice none 0 0, .slice none 0 0]).cells (cap + 1 - i) ++ Builtin.zeroCells (Value.agg #[.slice none 0 0, .slice none 0 0]).cells (G - (cap + 1)) := ⟨_, rfl⟩
  have hrz : ∀ ty, (Builtin.append_ #[46, 3] ty #[.slice (some ⟨g, 0, none⟩) i cap, .int .i64 ((cap : Int) + 1 - (i : Int))]).run Tryz.prog w = .ok (.slice (some ⟨w.heap.size, 0, none⟩) (cap + 1) G) (w.drew.alloc (.cells ROW 50)) := fun ty => by
    have h := Lib.run_append_grow_zeros (P := Tryz.prog) w 46 3 ty 50 i0 _ .i64 .i64 Tryz.underlying46 Tryz.underlying3 hi0 hz0 (some ⟨g, 0, none⟩) i cap _ hold (cap + 1 - i) (by omega) (by omega) (by omega) (by omega) (by rw [hz2]; omega) (by rw [hz2, hik]; exact growslice_fits (by omega) (by omega))
    rw [hik, ← hG, ← hROW] at h
    rw [hkk]
    exact h
  have hRl : ROW.size = G * 2 := by
    rw [hROW]
    simp only [Array.size_append, List.size_toArray, hfl, size_zeroCells, Value.cells]
    simp
    omega
  have hRt : ROW.toList.take (i * 2) = (css.take i).flatten := by
    rw [hROW, Array.toList_append, Array.toList_append, List.append_assoc]
    show (((css.take i).flatten) ++ _).take (i * 2) = _
    rw [← hfl, List.take_left]
  clear hROW
  obtain ⟨W1, hW1⟩ : ∃ W1, W1 = w.drew.alloc (.cells ROW 50) := ⟨_, rfl⟩
  rw [← hW1] at hrz
  have hrow : W1.heap[w.heap.size]? = some (.cells ROW 50 (0, 0)) := by rw [hW1]; exact heap_alloc_new w.drew _
  have hN : ∀ j, j < G * 2 → (W1.cell? ⟨w.heap.size, j, none⟩).isSome = true := fun j hj => by
    simp [World.cell?, hrow, hRl, hj]
  have hNf : ∀ j, W1.frozen? ⟨w.heap.size, j, none⟩ = false := fun j => by simp [World.frozen?, hrow]
  have hOb : ∀ b j, b < w.heap.size → W1.cell? ⟨b, j, none⟩ = w.cell? ⟨b, j, none⟩ := fun b j h => by rw [hW1, World.cell?_alloc_past (w := w.drew) _ b j h]; rfl
  have hcpA : ∀ (W : World), (∀ x, W.cell? x = W1.cell? x) → (∀ x, W.frozen? x = W1.frozen? x) → ∀ ty dc, (Builtin.copy_ #[46, 46] ty #[.slice (some ⟨w.heap.size, i * 2, none⟩) (cap + 1 - i) dc, .slice (some ⟨vb, 0, none⟩) 1 1]).run Tryz.prog W = .ok (goInt ((1 : Nat) : Int)) (W.setCells w.heap.size (i * 2) c) := fun W hWc hWf ty dc =>
    run_copy_chunks W _ _ ty 50 2 1 w.heap.size (i * 2) (cap + 1 - i) dc ⟨vb, 0, none⟩ 1 1 c Tryz.underlying46 hsz (by simp only [Nat.min_def]; split <;> omega) (by rw [hc])
      (fun j v hj => by rw [add_at, hWc, Nat.zero_add, hOb _ _ hvlt, box_cell hvb, hj])
      (fun j hj => by rw [hWc]; exact hN _ (by omega)) (fun j hj => by rw [hWf]; exact hNf _) hc1
  have hcpB : ∀ (W : World), (∀ x, W.cell? x = (W1.setCells w.heap.size (i * 2) c).cell? x) → (∀ x, W.frozen? x = (W1.setCells w.heap.size (i * 2) c).frozen? x) → ∀ ty dc sc, (Builtin.copy_ #[46, 46] ty #[.slice (some ⟨w.heap.size, (i + 1) * 2, none⟩) (cap - i) dc, .slice (some ⟨g, i * 2, none⟩) (cap - i) sc]).run Tryz.prog W = .ok (goInt ((cap - i : Nat) : Int)) (W.setCells w.heap.size ((i + 1) * 2) news) := fun W hWc hWf ty dc sc =>
    run_copy_chunks W _ _ ty 50 2 (cap - i) w.heap.size ((i + 1) * 2) (cap - i) dc ⟨g, i * 2, none⟩ (cap - i) sc news Tryz.underlying46 hsz (by simp only [Nat.min_def]; split <;> omega) hdl
      (fun j v hj => by
        rw [add_at, hWc, World.cell?_setCells_out _ _ _ _ _ (fun h _ => absurd h (by show ¬ (g = w.heap.size); omega)), hOb _ _ hlt]
        have hjl := (List.getElem?_eq_some_iff.1 hj).1
        rw [hcells (i * 2 + j) (by omega), ← hj, ← hdf, List.getElem?_drop])
      (fun j hj => by rw [hWc]; exact World.isSome_setCells _ _ _ _ _ (hN _ (by omega)))
      (fun j hj => by rw [hWf, World.frozen?_setCells]; exact hNf _) hn1
  have hE : Same (fun b => From base b ∧ b ≠ w.heap.size) w W1 := by rw [hW1]; exact ((Same.refl _ _).drew).alloc _
  have hB : Below base w W1 := by rw [hW1]; exact ((Below.refl _ _).drew).alloc hb _
  have hE1 : ∀ x, ((w.alloc (.cells ROW 50)).drew).cell? x = W1.cell? x := fun x => by rw [hW1]; rfl
  have hE2 : ∀ x, ((w.alloc (.cells ROW 50)).drew).frozen? x = W1.frozen? x := fun x => by rw [hW1]; rfl
  have hWW : W1 = (w.alloc (.cells ROW 50)).drew := by rw [hW1]; rfl
  have HrzA := Lib.hid hrz
  have HcpA := Lib.hid hcpA
  have HcpB := Lib.hid hcpB
  have Hrest := Lib.hid (And.intro hh (And.intro hrow (And.intro hRl (And.intro hRt (And.intro hw (And.intro he (And.intro hx (And.intro hE hB))))))))
  have Hn := Lib.hid hn
  have Hcl := Lib.hid hcl
  have Hnews := Lib.hid hnews
  have Hdl := Lib.hid hdl
  have Hc := Lib.hid hc
  have HE1 := Lib.hid hE1
  have HE2 := Lib.hid hE2
  have HWW := Lib.hid hWW
  have HWd := Lib.hid hW1
  have hG63' : G ≤ 9223372036854775807 := by simp only [maxLen] at hG63; omega
  have HG63 := Lib.hid hG63
  clear hrz hcpA hcpB hown hh hcur ht hw he hx hW1 hn hcl hnews hdl hc hcells hdf hn1 hc1 hsz hvb hrow hRl hRt hN hNf hOb hE hB hE1 hE2 hWW hold hkk hik hfi hfl hlt hG hG63
  have hz2' : ((i : Int) == (cap : Int)) = false := by simp; omega
  have hw0 : IntKind.i64.wrap ((cap : Int) + 1) = (cap : Int) + 1 := by rw [IntKind.wrap_i64]; omega
  have hw1 : IntKind.i64.wrap ((i : Int) + 1) = (i : Int) + 1 := by rw [IntKind.wrap_i64]; omega
  have hw2 : IntKind.i64.wrap ((cap : Int) + 1 - (i : Int)) = (cap : Int) + 1 - (i : Int) := by rw [IntKind.wrap_i64]; omega
  have hb0 : decide ((cap : Int) < (cap : Int) + 1) = true := by simp; omega
  have hb1 : (0 : Int) ≤ (i : Int) + 1 := by omega
  have hin : i ≤ cap := by omega
  have htn : ((i : Int) + 1).toNat = i + 1 := by omega
  have hGi : ¬ (G = i) := by omega
  have hGim : ¬ (G = i + 1) := by omega
  have hci : ¬ (cap = i) := by omega
  have hb3 : (i : Int) ≤ (cap : Int) := by omega
  have hb7 : (i : Int) + 1 ≤ (cap : Int) + 1 := by omega
  go_enter Tryz.func94, Tryz.ntmps94
  go_wp2_with (first
    | (at_builtin; refine Lib.wpList_append_run _ rfl (.tmp 34) (.tmp 39) _ _ rfl _ _ rfl rfl _ _ (HrzA.out _) ?_)
    | (refine wpList_copy_runI _ rfl (.tmp 43) (.tmp 44) 46 46 rfl (.slice (some ⟨w.heap.size, i * 2, none⟩) (cap + 1 - i) (G - i)) (.slice (some ⟨vb, 0, none⟩) 1 1) ?hd1 ?hx1 (HcpA.out _ (fun _ => rfl) (fun _ => rfl) _ _) ?_; (case hd1 => simp [Act.eval, Act.put]); (case hx1 => simp [Act.eval, Act.put])))
  go_region_law ((refine step_copy_runI rfl (.tmp 50) (.tmp 53) 46 46 rfl (.slice (some ⟨w.heap.size, (i + 1) * 2, none⟩) (cap - i) (G - (i + 1))) (.slice (some ⟨g, i * 2, none⟩) (cap - i) (cap - i)) ?hd2 ?hx2 (HcpB.out (W1.setCells w.heap.size (i * 2) c).drew (fun _ => rfl) (fun _ => rfl) _ _ _) ?_); (case hd2 => simp [Act.eval, Act.put]); (case hx2 => simp [Act.eval, Act.put]))
  go_wp2
  go_ret
  obtain ⟨hh, hrow, hRl, hRt, hw, he, hx, hE, hB⟩ := Hrest.out
  have hil : (ins l i x).length = cap + 1 := by rw [ins_len, Hn.out]
  have hc2 := Hc.out
  have hh1 := heap_setCells_row c (i * 2) ROW W1 hrow (by rw [hRl, hc2]; omega)
  have hl1 : (ROW.toList.take (i * 2) ++ c ++ ROW.toList.drop (i * 2 + c.length)).toArray.size = G * 2 := by
    rw [size_row _ _ _ _ rfl (by rw [hc2]; show i * 2 + 2 ≤ ROW.size; rw [hRl]; omega)]
    exact hRl
  have hh2 := heap_setCells_row news ((i + 1) * 2) _ (W1.setCells w.heap.size (i * 2) c).drew hh1 (by rw [hl1, Hdl.out]; omega)
  have hs : Same (fun b => From base b ∧ b ≠ w.heap.size) w ((W1.setCells w.heap.size (i * 2) c).drew.setCells w.heap.size ((i + 1) * 2) news) :=
    Same.setCells (by simp) _ _ (Same.setCells (by simp) _ _ hE).drew
  have hbw : Below base w ((W1.setCells w.heap.size (i * 2) c).drew.setCells w.heap.size ((i + 1) * 2) news) :=
    below_setCells' hb _ _ (below_setCells' hb _ _ hB).drew
  have hrow' : ∀ c' x', R (fun b => From base b ∧ b ≠ g) w c' x' → R (fun b => From base b ∧ b ≠ w.heap.size) ((W1.setCells w.heap.size (i * 2) c).drew.setCells w.heap.size ((i + 1) * 2) news) c' x' := fun c' x' h' =>
    hR.same _ _ _ _ _ hs (hR.less _ _ _ _ _ (fun b hlt hs => ⟨hs.1, by omega⟩) h')
  refine ⟨.slice (some ⟨w.heap.size, 0, none⟩) (cap + 1) G, rfl, ?_, hbw⟩
  rw [← hil]
  refine Own.mk_row (css := css.take i ++ c :: css.drop i) (wide_ins hw hc2 i) ((each_ins he hx i).mono hrow') hb hh2 (by omega) HG63.out ?_ ?_ hR
  · rw [size_row _ _ _ _ rfl (by rw [Hdl.out]; show (i + 1) * 2 + (cap - i) * 2 ≤ Array.size _; rw [hl1]; omega)]
    exact hl1
  · rw [hil]
    exact grow_cells hw Hcl.out hRt (by omega) hc2 (by rw [Array.length_toList, hRl]; omega) news Hnews.out
/-- All roads. -/
theorem sinsert_ok {α : Type} {R : (Nat → Prop) → World → List Value → α → Prop} (hR : Stays R) (hone : ∀ S w c x, R S w c x → ∀ u ∈ c, u.oneCell' = true) (w : World) (base : Nat) (v : Value) (l : List α) (i : Nat) (x : α) (vb : Nat) (c : List Value) (T : TypeId)
    (hown : Own 2 R (From base) w base 50 v l) (hi : i ≤ l.length) (hb : base ≤ w.heap.size) (hl : l.length ≤ 100000) (hvb : w.heap[vb]? = some (.cells c.toArray T (0, 0))) (hne : v.ownBlock ≠ some vb) (hc : c.length = 2) (hx : R (fun b => From base b ∧ v.ownBlock ≠ some b) w c x) :
    Calls Tryz.prog 94 #[v, .int .i64 i, .slice (some ⟨vb, 0, none⟩) 1 1] w (RetIns R 50 base w (ins l i x)) := by
  rcases Nat.lt_or_ge i l.length with h | h
  · obtain ⟨g, cap, cur, css, rfl, _⟩ := hown.row hR (by omega)
    have hx' : R (fun b => From base b ∧ b ≠ g) w c x := hR.less _ _ _ _ _ (fun b _ hs => ⟨hs.1, fun e => hs.2 (by simp [Value.ownBlock, e])⟩) hx
    by_cases hroom : l.length < cap
    · exact sinsert_room hR hone w base l i x g cap vb c T hown h hroom hvb hc (fun e => hne (by simp [Value.ownBlock, e])) hx'
    · exact sinsert_grow hR hone w base l i x g cap vb c T hown hb hl h hroom hvb hc hx'
  · obtain rfl : i = l.length := by omega
    have e : ins l l.length x = l ++ [x] := by simp [ins]
    rw [e]
    exact sinsert_end hR hone w base v l x vb c T hown hb hl hvb hc hx
end Go.Proofs.YthohkgggodhbcaaGreat
namespace Go.Proofs.YthohkgggodhbcaaGreat
open Go.RowKit
set_option linter.unusedVariables false
set_option linter.unusedSimpArgs false

/-- A new pair's cells, as what they say behind more allocations. -/
theorem pair_fresh {n base : Nat} {w W : World} {v : Value} {A B : Option Addr} {p : Pr} {c d : Nat} (h1 : Bs (From n) w A p.1) (h2 : Bs (From n) w B p.2) (g1 : p.1.length ≤ big) (g2 : p.2.length ≤ big) (hs : Same (From n) w W) (hb : base ≤ n) (hap : ∀ b, From n b → v.ownBlock ≠ some b) :
    PairR (fun b => From base b ∧ v.ownBlock ≠ some b) W [.slice A p.1.length c, .slice B p.2.length d] p :=
  ⟨A, c, B, d, rfl, (h1.bsame hs).bless fun b _ h => ⟨Nat.le_trans hb h, hap b h⟩, (h2.bsame hs).bless fun b _ h => ⟨Nat.le_trans hb h, hap b h⟩, g1, g2⟩
theorem pairFine_big {p : Pr} (h : pairFaultS p = 0) : p.1.length ≤ big ∧ p.2.length ≤ big := by
  unfold pairFaultS keyFault at h
  unfold big
  split at h
  · simp at h
  · split at h
    · omega
    · simp at h

set_option maxRecDepth 100000 in
set_option maxHeartbeats 2000000 in
theorem putOf_ok (w : World) (A : Option Addr) (l : List Pr) (c : Nat) (P Q : Option Addr) (p : Pr) (pc pd : Nat) (ha : Ps All w A l) (hp1 : Bs All w P p.1) (hp2 : Bs All w Q p.2) :
    Calls Tryz.prog 90 #[.slice A l.length c, .agg #[.slice P p.1.length pc, .slice Q p.2.length pd]] w (RetPE w (putS l p)) := by
  obtain ⟨i0, hi0, hz0, hz1, hz2⟩ := info_parts info_pair
  have Ha := Lib.hid ha
  have Hp1 := Lib.hid hp1
  have Hp2 := Lib.hid hp2
  clear ha hp1 hp2
  by_cases h1 : pairsFaultS l = 0
  · have b1 : (pairsFaultS l == 0) = true := by simp [h1]
    by_cases h2 : pairFaultS p = 0
    · have b2 : (pairFaultS p != 0) = false := by simp [h2]
      obtain ⟨hl60, hlf, _⟩ := pairs_fine h1
      have Hl := Lib.hid hl60
      have Hlf := Lib.hid hlf
      have Hpb := Lib.hid (pairFine_big h2)
      have Hpp := Lib.hid (show ppFault l p = 0 by simp [ppFault, h1, h2])
      clear h1 h2 hlf
      go_enter Tryz.func90, Tryz.ntmps90
      go_wp2_with (first
        | (go_at_call 87; refine (pairsFault_ok _ A l c (Ha.out.below pairR_stays ?_)).mono ?_; (repeat' (first | exact Below.refl _ _ | assumption | refine Below.drew ?_ | refine below_drewN ?_ _ | refine Below.alloc ?_ (by first | exact Nat.le_refl _ | omega | (simp; done) | (simp; omega)) _)); rintro e w2 ⟨rfl, hb2⟩; have hg0 : w2.cell? ⟨w.heap.size, 0, none⟩ = some (.slice P p.1.length pc) := (hb2.cell (by first | (simp; done) | omega | (simp; omega))).trans (by simp); have hg1 : w2.cell? ⟨w.heap.size, 1, none⟩ = some (.slice Q p.2.length pd) := (hb2.cell (by first | (simp; done) | omega | (simp; omega))).trans (by simp))
        | (go_at_call 86; refine (pairFault_ok _ P Q p pc pd).mono ?_; rintro e w1 ⟨rfl, hb1⟩))
      clear b1 b2
      have hbox : w2.heap[w.heap.size]? = some (.cells #[.slice P p.1.length pc, .slice Q p.2.length pd] 50 (0, 0)) := (hb2.block w.heap.size (by first | (simp; done) | omega | (simp; omega))).trans (box_new w _ _)
      have hz2' : w.heap.size + 1 ≤ w2.heap.size := by have := hb2.size; simpa using this
      have hb02 : Below w.heap.size w w2 := ((Below.refl w.heap.size w).alloc (Nat.le_refl _) _).next hb2 (by first | (simp; done) | omega | (simp; omega))
      have hz1' : w2.heap.size ≤ w1.heap.size := hb1.size
      have hb01 : Below w.heap.size w w1 := hb02.next hb1 (by omega)
      have hbox1 : w1.heap[w.heap.size]? = some (.cells #[.slice P p.1.length pc, .slice Q p.2.length pd] 50 (0, 0)) := (hb1.block w.heap.size (by omega)).trans hbox
      have Ha1 := Lib.hid (Ha.out.below pairR_stays hb01)
      have Hp11 := Lib.hid (Hp1.out.bbelow hb01)
      have Hp21 := Lib.hid (Hp2.out.bbelow hb01)
      have Hbox := Lib.hid hbox1
      have Hb01 := Lib.hid hb01
      have hzb : w.heap.size < w1.heap.size := by omega
      clear hbox hbox1 hb02 hb01 hb1 hb2 hz1' hz2' hg0 hg1
      go_loopw [7, 8, 9] (fun v d i wr => ∃ j : Nat, j ≤ l.length ∧ i = .int .i64 j ∧ d = .bool (putFold p (l.take j)).2 ∧ Own 2 PairR (From w1.heap.size) wr w1.heap.size 50 v (putFold p (l.take j)).1 ∧ Below w1.heap.size w1 wr) (fun _ _ i _ => l.length - (intOf i).toNat)
      case atStart => exact ⟨0, by omega, rfl, rfl, Own.nil _ _ _, Below.refl _ _⟩
      case round =>
        obtain ⟨j, hj, rfl, rfl, hown, hbel⟩ := hrel
        have hbz := hbel.size
        by_cases hlt : j < l.length
        · have Hst := Lib.hid (putFold_snoc (p := p) hlt)
          have Hlen := Lib.hid (putFold_len p l j hj)
          obtain ⟨ab, ao, K0, c3, V0, d3, rfl, _, hal, hc1, hc2, hs1, hs2, hb1, hb2⟩ := pairs_at Ha1.out hlt
          have Hcells := Lib.hid (show ∀ W, Below w1.heap.size w1 W → (W.cell? ⟨w.heap.size, 0, none⟩ = some (.slice P p.1.length pc) ∧ W.cell? ⟨w.heap.size, 1, none⟩ = some (.slice Q p.2.length pd) ∧ W.cell? ⟨ab, ao + j * 2, none⟩ = some (.slice K0 l[j].1.length c3) ∧ W.cell? ⟨ab, ao + j * 2 + 1, none⟩ = some (.slice V0 l[j].2.length d3)) from fun W hW => by
            obtain ⟨g0, g1, _, _⟩ := box2 ((hW.block _ hzb).trans Hbox.out)
            exact ⟨g0, g1, (hW.cell hal).trans hc1, (hW.cell hal).trans hc2⟩)
          clear hc1 hc2
          obtain ⟨g0, g1, hc1, hc2⟩ := Hcells.out wr hbel
          generalize l[j] = x at *
          have Hstep : ∀ s, putFold p (l.take j) = s → putFold p (l.take (j + 1)) = putStep p s x := fun s hs => by rw [Hst.out, hs]
          clear Hst
          generalize putFold p (l.take j) = s at *
          have Hst := Lib.hid (Hstep s rfl)
          clear Hstep
          obtain ⟨out, dn⟩ := s
          have Hown := Lib.hid hown
          have hlen := Hlen.out
          have h60 := Hl.out
          have hi1 : (j : Int) < (l.length : Int) := by omega
          dsimp only at hlen
          clear hown
          cases dn with
          | true =>
            rcases Bool.eq_false_or_eq_true (x.1 == p.1) with he | he
            · have Hq := Lib.hid (show putStep p (out, true) x = (out, true) by simp [putStep, he])
              go_wp2_with fail
              go_quiet (fail)
              go_wp2_with fail
              go_quiet ((go_at_call 35; exact quiet_add_left ((refSameBytes_ok _ K0 P x.1 p.1 c3 pc ((hs1.bz.bbelow hbel).bsame (by repeat' (first | exact Same.refl _ _ | assumption | refine Same.drew ?_ | refine Same.drewN ?_ _ | refine Same.alloc ?_ _ | refine Same.setCell ?_ (fun hq => by simp only [From] at hq; first | omega | (simp at hq; done) | (simp at hq; omega)) _))) ((Hp11.out.bbelow hbel).bsame (by repeat' (first | exact Same.refl _ _ | assumption | refine Same.drew ?_ | refine Same.drewN ?_ _ | refine Same.alloc ?_ _ | refine Same.setCell ?_ (fun hq => by simp only [From] at hq; first | omega | (simp at hq; done) | (simp at hq; omega)) _)))))))
              go_wp2
              go_roundw
              case rel => exact ⟨j + 1, by omega, by go_num, by rw [Hst.out, Hq.out], by rw [Hst.out, Hq.out]; exact Hown.out.below pairR_stays (below_drewN (Below.refl _ _) _), below_drewN hbel _⟩
              case measure => simp [intOf]; omega
            · have Hq := Lib.hid (show putStep p (out, true) x = (out ++ [x], true) by simp [putStep, he])
              go_wp2_with fail
              go_quiet (fail)
              go_wp2_with fail
              go_quiet ((go_at_call 35; exact quiet_add_left ((refSameBytes_ok _ K0 P x.1 p.1 c3 pc ((hs1.bz.bbelow hbel).bsame (by repeat' (first | exact Same.refl _ _ | assumption | refine Same.drew ?_ | refine Same.drewN ?_ _ | refine Same.alloc ?_ _ | refine Same.setCell ?_ (fun hq => by simp only [From] at hq; first | omega | (simp at hq; done) | (simp at hq; omega)) _))) ((Hp11.out.bbelow hbel).bsame (by repeat' (first | exact Same.refl _ _ | assumption | refine Same.drew ?_ | refine Same.drewN ?_ _ | refine Same.alloc ?_ _ | refine Same.setCell ?_ (fun hq => by simp only [From] at hq; first | omega | (simp at hq; done) | (simp at hq; omega)) _)))))))
              generalize hwz : World.drewN wr _ = wz
              have hbzz : Below w1.heap.size w1 wz := hwz ▸ below_drewN hbel _
              have Hownz := Lib.hid (show Own 2 PairR (From w1.heap.size) wz w1.heap.size 50 _ out from hwz ▸ Hown.out.below pairR_stays (below_drewN (Below.refl _ _) _))
              clear hwz
              generalize hwq : World.drewN wz _ = wq
              have hbq : Below w1.heap.size w1 wq := hwq ▸ below_drewN hbzz _
              have Hownq := Lib.hid (show Own 2 PairR (From w1.heap.size) wq w1.heap.size 50 _ (out) from hwq ▸ Hownz.out.below pairR_stays (below_drewN (Below.refl _ _) _))
              clear hwq
              have hbqz := hbq.size
              obtain ⟨g2, g3, hc3, hc4⟩ := Hcells.out wq hbq
              go_wp2_with (first
                | (go_at_call 98; (with_reducible refine (pairCopy_ok _ K0 V0 x c3 d3 ?h1 ?h2 hb1 hb2).mono ?_); (case h1 => (refine hs1.bz.bbelow ?_; repeat' (first | exact Below.refl _ _ | assumption | refine Below.drew ?_ | refine below_drewN ?_ _ | refine Below.setCell ?_ (by first | (simp; done) | omega | (simp; omega)) _ | refine Below.alloc ?_ (by first | exact Nat.le_refl _ | omega | (simp; done) | (simp; omega)) _))); (case h2 => (refine hs2.bz.bbelow ?_; repeat' (first | exact Below.refl _ _ | assumption | refine Below.drew ?_ | refine below_drewN ?_ _ | refine Below.setCell ?_ (by first | (simp; done) | omega | (simp; omega)) _ | refine Below.alloc ?_ (by first | exact Nat.le_refl _ | omega | (simp; done) | (simp; omega)) _))); rintro e w4 ⟨A1, c4, A2, d2, rfl, gs1, gs2, hb4⟩; have hb4z := hb4.size)
                | (at_builtin; refine wpl_snoc pairR_stays (S := From w1.heap.size) _ rfl (.tmp 61) (.tmp 63) _ rfl w1.heap.size 50 i0 _ 2 48 Tryz.underlying46 hi0 hz0 hz1 hz2 rfl (by decide) _ (out) rfl ?hown _ _ [.slice A1 x.1.length c4, .slice A2 x.2.length d2] rfl rfl (new_src _ _ [.slice A1 x.1.length c4, .slice A2 x.2.length d2] _ (by simp)) (by simp [Value.oneCell']) ?hm ?hby ?hba x ?hd ?_; (case hown => (refine Own.below pairR_stays Hownq.out ?_; repeat' (first | exact Below.refl _ _ | assumption | refine Below.drew ?_ | refine below_drewN ?_ _ | refine Below.setCell ?_ (by first | (simp; done) | omega | (simp; omega)) _ | refine Below.alloc ?_ (by first | exact Nat.le_refl _ | omega | (simp; done) | (simp; omega)) _))); (case hm => ((try simp only [List.length_append, List.length_singleton]); simp only [maxLen]; omega)); (case hby => ((try simp only [List.length_append, List.length_singleton]); omega)); (case hba => (simp; omega)); (case hd => (refine pair_fresh (n := wq.heap.size) gs1 gs2 hb1 hb2 ?_ (by first | exact Nat.le_refl _ | omega | (simp; done) | (simp; omega)) (Hownq.out.apart _ (Nat.le_refl _)); repeat' (first | exact Same.refl _ _ | assumption | refine Same.drew ?_ | refine Same.drewN ?_ _ | refine Same.alloc ?_ _ | refine Same.setCell ?_ (fun hq => by simp only [From] at hq; first | omega | (simp at hq; done) | (simp at hq; omega)) _))); intro v1 w5 hown2 hbw2))
              go_roundw
              case rel => exact ⟨j + 1, by omega, by go_num, by rw [Hst.out, Hq.out], by rw [Hst.out, Hq.out]; simpa using hown2, (((hbq.next hb4 hbqz).alloc (by first | exact Nat.le_refl _ | omega | (simp; done) | (simp; omega)) _).alloc (by first | exact Nat.le_refl _ | omega | (simp; done) | (simp; omega)) _).trans hbw2⟩
              case measure => simp [intOf]; omega
          | false =>
            rcases Bool.eq_false_or_eq_true (lt x.1 p.1) with ho | ho
            · have he : (x.1 == p.1) = false := by rw [beq_eq_false_iff_ne]; intro e; rw [e, lt_irrefl] at ho; cases ho
              have Hq := Lib.hid (show putStep p (out, false) x = (out ++ [x], false) by simp [putStep, ho, he])
              go_wp2_with fail
              go_quiet ((go_at_call 52; exact quiet_left ((before_ok _ K0 P x.1 p.1 c3 pc ((hs1.bz.bbelow hbel).bsame (by repeat' (first | exact Same.refl _ _ | assumption | refine Same.drew ?_ | refine Same.drewN ?_ _ | refine Same.alloc ?_ _ | refine Same.setCell ?_ (fun hq => by simp only [From] at hq; first | omega | (simp at hq; done) | (simp at hq; omega)) _))) ((Hp11.out.bbelow hbel).bsame (by repeat' (first | exact Same.refl _ _ | assumption | refine Same.drew ?_ | refine Same.drewN ?_ _ | refine Same.alloc ?_ _ | refine Same.setCell ?_ (fun hq => by simp only [From] at hq; first | omega | (simp at hq; done) | (simp at hq; omega)) _)))))))
              go_wp2_with fail
              go_quiet ((go_at_call 35; exact quiet_add_left ((refSameBytes_ok _ K0 P x.1 p.1 c3 pc ((hs1.bz.bbelow hbel).bsame (by repeat' (first | exact Same.refl _ _ | assumption | refine Same.drew ?_ | refine Same.drewN ?_ _ | refine Same.alloc ?_ _ | refine Same.setCell ?_ (fun hq => by simp only [From] at hq; first | omega | (simp at hq; done) | (simp at hq; omega)) _))) ((Hp11.out.bbelow hbel).bsame (by repeat' (first | exact Same.refl _ _ | assumption | refine Same.drew ?_ | refine Same.drewN ?_ _ | refine Same.alloc ?_ _ | refine Same.setCell ?_ (fun hq => by simp only [From] at hq; first | omega | (simp at hq; done) | (simp at hq; omega)) _)))))))
              generalize hwz : World.drewN wr _ = wz
              have hbzz : Below w1.heap.size w1 wz := hwz ▸ below_drewN hbel _
              have Hownz := Lib.hid (show Own 2 PairR (From w1.heap.size) wz w1.heap.size 50 _ out from hwz ▸ Hown.out.below pairR_stays (below_drewN (Below.refl _ _) _))
              clear hwz
              generalize hwq : World.drewN wz _ = wq
              have hbq : Below w1.heap.size w1 wq := hwq ▸ below_drewN hbzz _
              have Hownq := Lib.hid (show Own 2 PairR (From w1.heap.size) wq w1.heap.size 50 _ (out) from hwq ▸ Hownz.out.below pairR_stays (below_drewN (Below.refl _ _) _))
              clear hwq
              have hbqz := hbq.size
              obtain ⟨g2, g3, hc3, hc4⟩ := Hcells.out wq hbq
              go_wp2_with (first
                | (go_at_call 98; (with_reducible refine (pairCopy_ok _ K0 V0 x c3 d3 ?h1 ?h2 hb1 hb2).mono ?_); (case h1 => (refine hs1.bz.bbelow ?_; repeat' (first | exact Below.refl _ _ | assumption | refine Below.drew ?_ | refine below_drewN ?_ _ | refine Below.setCell ?_ (by first | (simp; done) | omega | (simp; omega)) _ | refine Below.alloc ?_ (by first | exact Nat.le_refl _ | omega | (simp; done) | (simp; omega)) _))); (case h2 => (refine hs2.bz.bbelow ?_; repeat' (first | exact Below.refl _ _ | assumption | refine Below.drew ?_ | refine below_drewN ?_ _ | refine Below.setCell ?_ (by first | (simp; done) | omega | (simp; omega)) _ | refine Below.alloc ?_ (by first | exact Nat.le_refl _ | omega | (simp; done) | (simp; omega)) _))); rintro e w4 ⟨A1, c4, A2, d2, rfl, gs1, gs2, hb4⟩; have hb4z := hb4.size)
                | (at_builtin; refine wpl_snoc pairR_stays (S := From w1.heap.size) _ rfl (.tmp 61) (.tmp 63) _ rfl w1.heap.size 50 i0 _ 2 48 Tryz.underlying46 hi0 hz0 hz1 hz2 rfl (by decide) _ (out) rfl ?hown _ _ [.slice A1 x.1.length c4, .slice A2 x.2.length d2] rfl rfl (new_src _ _ [.slice A1 x.1.length c4, .slice A2 x.2.length d2] _ (by simp)) (by simp [Value.oneCell']) ?hm ?hby ?hba x ?hd ?_; (case hown => (refine Own.below pairR_stays Hownq.out ?_; repeat' (first | exact Below.refl _ _ | assumption | refine Below.drew ?_ | refine below_drewN ?_ _ | refine Below.setCell ?_ (by first | (simp; done) | omega | (simp; omega)) _ | refine Below.alloc ?_ (by first | exact Nat.le_refl _ | omega | (simp; done) | (simp; omega)) _))); (case hm => ((try simp only [List.length_append, List.length_singleton]); simp only [maxLen]; omega)); (case hby => ((try simp only [List.length_append, List.length_singleton]); omega)); (case hba => (simp; omega)); (case hd => (refine pair_fresh (n := wq.heap.size) gs1 gs2 hb1 hb2 ?_ (by first | exact Nat.le_refl _ | omega | (simp; done) | (simp; omega)) (Hownq.out.apart _ (Nat.le_refl _)); repeat' (first | exact Same.refl _ _ | assumption | refine Same.drew ?_ | refine Same.drewN ?_ _ | refine Same.alloc ?_ _ | refine Same.setCell ?_ (fun hq => by simp only [From] at hq; first | omega | (simp at hq; done) | (simp at hq; omega)) _))); intro v1 w5 hown2 hbw2))
              go_roundw
              case rel => exact ⟨j + 1, by omega, by go_num, by rw [Hst.out, Hq.out], by rw [Hst.out, Hq.out]; simpa using hown2, (((hbq.next hb4 hbqz).alloc (by first | exact Nat.le_refl _ | omega | (simp; done) | (simp; omega)) _).alloc (by first | exact Nat.le_refl _ | omega | (simp; done) | (simp; omega)) _).trans hbw2⟩
              case measure => simp [intOf]; omega
            · rcases Bool.eq_false_or_eq_true (x.1 == p.1) with he | he
              · have Hq := Lib.hid (show putStep p (out, false) x = (out ++ [p], true) by simp [putStep, ho, he])
                go_wp2_with fail
                go_quiet ((go_at_call 52; exact quiet_left ((before_ok _ K0 P x.1 p.1 c3 pc ((hs1.bz.bbelow hbel).bsame (by repeat' (first | exact Same.refl _ _ | assumption | refine Same.drew ?_ | refine Same.drewN ?_ _ | refine Same.alloc ?_ _ | refine Same.setCell ?_ (fun hq => by simp only [From] at hq; first | omega | (simp at hq; done) | (simp at hq; omega)) _))) ((Hp11.out.bbelow hbel).bsame (by repeat' (first | exact Same.refl _ _ | assumption | refine Same.drew ?_ | refine Same.drewN ?_ _ | refine Same.alloc ?_ _ | refine Same.setCell ?_ (fun hq => by simp only [From] at hq; first | omega | (simp at hq; done) | (simp at hq; omega)) _)))))))
                generalize hwp : World.drewN wr _ = wp
                have hbp : Below w1.heap.size w1 wp := hwp ▸ below_drewN hbel _
                have Hownp := Lib.hid (show Own 2 PairR (From w1.heap.size) wp w1.heap.size 50 _ out from hwp ▸ Hown.out.below pairR_stays (below_drewN (Below.refl _ _) _))
                clear hwp
                have hbpz := hbp.size
                obtain ⟨g5, g6, hc5, hc6⟩ := Hcells.out wp hbp
                go_wp2_with (first
                  | (go_at_call 98; (with_reducible refine (pairCopy_ok _ P Q p pc pd ?h1 ?h2 Hpb.out.1 Hpb.out.2).mono ?_); (case h1 => (refine Hp11.out.bbelow ?_; repeat' (first | exact Below.refl _ _ | assumption | refine Below.drew ?_ | refine below_drewN ?_ _ | refine Below.setCell ?_ (by first | (simp; done) | omega | (simp; omega)) _ | refine Below.alloc ?_ (by first | exact Nat.le_refl _ | omega | (simp; done) | (simp; omega)) _))); (case h2 => (refine Hp21.out.bbelow ?_; repeat' (first | exact Below.refl _ _ | assumption | refine Below.drew ?_ | refine below_drewN ?_ _ | refine Below.setCell ?_ (by first | (simp; done) | omega | (simp; omega)) _ | refine Below.alloc ?_ (by first | exact Nat.le_refl _ | omega | (simp; done) | (simp; omega)) _))); rintro e w6 ⟨A3, c6, A4, d4, rfl, gs3, gs4, hb6⟩; have hb6z := hb6.size)
                  | (at_builtin; refine wpl_snoc pairR_stays (S := From w1.heap.size) _ rfl (.tmp 43) (.tmp 45) _ rfl w1.heap.size 50 i0 _ 2 48 Tryz.underlying46 hi0 hz0 hz1 hz2 rfl (by decide) _ (out) rfl ?hown _ _ [.slice A3 p.1.length c6, .slice A4 p.2.length d4] rfl rfl (new_src _ _ [.slice A3 p.1.length c6, .slice A4 p.2.length d4] _ (by simp)) (by simp [Value.oneCell']) ?hm ?hby ?hba p ?hd ?_; (case hown => (refine Own.below pairR_stays Hownp.out ?_; repeat' (first | exact Below.refl _ _ | assumption | refine Below.drew ?_ | refine below_drewN ?_ _ | refine Below.setCell ?_ (by first | (simp; done) | omega | (simp; omega)) _ | refine Below.alloc ?_ (by first | exact Nat.le_refl _ | omega | (simp; done) | (simp; omega)) _))); (case hm => ((try simp only [List.length_append, List.length_singleton]); simp only [maxLen]; omega)); (case hby => ((try simp only [List.length_append, List.length_singleton]); omega)); (case hba => (simp; omega)); (case hd => (refine pair_fresh (n := wp.heap.size) gs3 gs4 Hpb.out.1 Hpb.out.2 ?_ (by first | exact Nat.le_refl _ | omega | (simp; done) | (simp; omega)) (Hownp.out.apart _ (Nat.le_refl _)); repeat' (first | exact Same.refl _ _ | assumption | refine Same.drew ?_ | refine Same.drewN ?_ _ | refine Same.alloc ?_ _ | refine Same.setCell ?_ (fun hq => by simp only [From] at hq; first | omega | (simp at hq; done) | (simp at hq; omega)) _))); intro v7 w7 hown7 hbw7; have hb17 : Below w1.heap.size w1 w7 := (((hbp.next hb6 hbpz).alloc (by first | exact Nat.le_refl _ | omega | (simp; done) | (simp; omega)) _).alloc (by first | exact Nat.le_refl _ | omega | (simp; done) | (simp; omega)) _).trans hbw7; have hz17 := hb17.size; obtain ⟨g7, g8, hc7, hc8⟩ := Hcells.out w7 hb17))
                go_quiet ((go_at_call 35; exact quiet_left ((refSameBytes_ok _ K0 P x.1 p.1 c3 pc ((hs1.bz.bbelow hb17).bsame (by repeat' (first | exact Same.refl _ _ | assumption | refine Same.drew ?_ | refine Same.drewN ?_ _ | refine Same.alloc ?_ _ | refine Same.setCell ?_ (fun hq => by simp only [From] at hq; first | omega | (simp at hq; done) | (simp at hq; omega)) _))) ((Hp11.out.bbelow hb17).bsame (by repeat' (first | exact Same.refl _ _ | assumption | refine Same.drew ?_ | refine Same.drewN ?_ _ | refine Same.alloc ?_ _ | refine Same.setCell ?_ (fun hq => by simp only [From] at hq; first | omega | (simp at hq; done) | (simp at hq; omega)) _)))))))
                go_wp2
                go_roundw
                case rel => exact ⟨j + 1, by omega, by go_num, by rw [Hst.out, Hq.out], by rw [Hst.out, Hq.out]; exact hown7.below pairR_stays (below_drewN (Below.refl _ _) _), below_drewN hb17 _⟩
                case measure => simp [intOf]; omega
              · have Hq := Lib.hid (show putStep p (out, false) x = (out ++ [p] ++ [x], true) by simp [putStep, ho, he])
                go_wp2_with fail
                go_quiet ((go_at_call 52; exact quiet_left ((before_ok _ K0 P x.1 p.1 c3 pc ((hs1.bz.bbelow hbel).bsame (by repeat' (first | exact Same.refl _ _ | assumption | refine Same.drew ?_ | refine Same.drewN ?_ _ | refine Same.alloc ?_ _ | refine Same.setCell ?_ (fun hq => by simp only [From] at hq; first | omega | (simp at hq; done) | (simp at hq; omega)) _))) ((Hp11.out.bbelow hbel).bsame (by repeat' (first | exact Same.refl _ _ | assumption | refine Same.drew ?_ | refine Same.drewN ?_ _ | refine Same.alloc ?_ _ | refine Same.setCell ?_ (fun hq => by simp only [From] at hq; first | omega | (simp at hq; done) | (simp at hq; omega)) _)))))))
                generalize hwp : World.drewN wr _ = wp
                have hbp : Below w1.heap.size w1 wp := hwp ▸ below_drewN hbel _
                have Hownp := Lib.hid (show Own 2 PairR (From w1.heap.size) wp w1.heap.size 50 _ out from hwp ▸ Hown.out.below pairR_stays (below_drewN (Below.refl _ _) _))
                clear hwp
                have hbpz := hbp.size
                obtain ⟨g5, g6, hc5, hc6⟩ := Hcells.out wp hbp
                go_wp2_with (first
                  | (go_at_call 98; (with_reducible refine (pairCopy_ok _ P Q p pc pd ?h1 ?h2 Hpb.out.1 Hpb.out.2).mono ?_); (case h1 => (refine Hp11.out.bbelow ?_; repeat' (first | exact Below.refl _ _ | assumption | refine Below.drew ?_ | refine below_drewN ?_ _ | refine Below.setCell ?_ (by first | (simp; done) | omega | (simp; omega)) _ | refine Below.alloc ?_ (by first | exact Nat.le_refl _ | omega | (simp; done) | (simp; omega)) _))); (case h2 => (refine Hp21.out.bbelow ?_; repeat' (first | exact Below.refl _ _ | assumption | refine Below.drew ?_ | refine below_drewN ?_ _ | refine Below.setCell ?_ (by first | (simp; done) | omega | (simp; omega)) _ | refine Below.alloc ?_ (by first | exact Nat.le_refl _ | omega | (simp; done) | (simp; omega)) _))); rintro e w6 ⟨A3, c6, A4, d4, rfl, gs3, gs4, hb6⟩; have hb6z := hb6.size)
                  | (at_builtin; refine wpl_snoc pairR_stays (S := From w1.heap.size) _ rfl (.tmp 43) (.tmp 45) _ rfl w1.heap.size 50 i0 _ 2 48 Tryz.underlying46 hi0 hz0 hz1 hz2 rfl (by decide) _ (out) rfl ?hown _ _ [.slice A3 p.1.length c6, .slice A4 p.2.length d4] rfl rfl (new_src _ _ [.slice A3 p.1.length c6, .slice A4 p.2.length d4] _ (by simp)) (by simp [Value.oneCell']) ?hm ?hby ?hba p ?hd ?_; (case hown => (refine Own.below pairR_stays Hownp.out ?_; repeat' (first | exact Below.refl _ _ | assumption | refine Below.drew ?_ | refine below_drewN ?_ _ | refine Below.setCell ?_ (by first | (simp; done) | omega | (simp; omega)) _ | refine Below.alloc ?_ (by first | exact Nat.le_refl _ | omega | (simp; done) | (simp; omega)) _))); (case hm => ((try simp only [List.length_append, List.length_singleton]); simp only [maxLen]; omega)); (case hby => ((try simp only [List.length_append, List.length_singleton]); omega)); (case hba => (simp; omega)); (case hd => (refine pair_fresh (n := wp.heap.size) gs3 gs4 Hpb.out.1 Hpb.out.2 ?_ (by first | exact Nat.le_refl _ | omega | (simp; done) | (simp; omega)) (Hownp.out.apart _ (Nat.le_refl _)); repeat' (first | exact Same.refl _ _ | assumption | refine Same.drew ?_ | refine Same.drewN ?_ _ | refine Same.alloc ?_ _ | refine Same.setCell ?_ (fun hq => by simp only [From] at hq; first | omega | (simp at hq; done) | (simp at hq; omega)) _))); intro v7 w7 hown7 hbw7; have hb17 : Below w1.heap.size w1 w7 := (((hbp.next hb6 hbpz).alloc (by first | exact Nat.le_refl _ | omega | (simp; done) | (simp; omega)) _).alloc (by first | exact Nat.le_refl _ | omega | (simp; done) | (simp; omega)) _).trans hbw7; have hz17 := hb17.size; obtain ⟨g7, g8, hc7, hc8⟩ := Hcells.out w7 hb17))
                go_quiet ((go_at_call 35; exact quiet_left ((refSameBytes_ok _ K0 P x.1 p.1 c3 pc ((hs1.bz.bbelow hb17).bsame (by repeat' (first | exact Same.refl _ _ | assumption | refine Same.drew ?_ | refine Same.drewN ?_ _ | refine Same.alloc ?_ _ | refine Same.setCell ?_ (fun hq => by simp only [From] at hq; first | omega | (simp at hq; done) | (simp at hq; omega)) _))) ((Hp11.out.bbelow hb17).bsame (by repeat' (first | exact Same.refl _ _ | assumption | refine Same.drew ?_ | refine Same.drewN ?_ _ | refine Same.alloc ?_ _ | refine Same.setCell ?_ (fun hq => by simp only [From] at hq; first | omega | (simp at hq; done) | (simp at hq; omega)) _)))))))
                generalize hwq : World.drewN w7 _ = wq
                have hbq : Below w1.heap.size w1 wq := hwq ▸ below_drewN hb17 _
                have Hownq := Lib.hid (show Own 2 PairR (From w1.heap.size) wq w1.heap.size 50 _ (out ++ [p]) from hwq ▸ hown7.below pairR_stays (below_drewN (Below.refl _ _) _))
                clear hwq
                have hbqz := hbq.size
                obtain ⟨g2, g3, hc3, hc4⟩ := Hcells.out wq hbq
                go_wp2_with (first
                  | (go_at_call 98; (with_reducible refine (pairCopy_ok _ K0 V0 x c3 d3 ?h1 ?h2 hb1 hb2).mono ?_); (case h1 => (refine hs1.bz.bbelow ?_; repeat' (first | exact Below.refl _ _ | assumption | refine Below.drew ?_ | refine below_drewN ?_ _ | refine Below.setCell ?_ (by first | (simp; done) | omega | (simp; omega)) _ | refine Below.alloc ?_ (by first | exact Nat.le_refl _ | omega | (simp; done) | (simp; omega)) _))); (case h2 => (refine hs2.bz.bbelow ?_; repeat' (first | exact Below.refl _ _ | assumption | refine Below.drew ?_ | refine below_drewN ?_ _ | refine Below.setCell ?_ (by first | (simp; done) | omega | (simp; omega)) _ | refine Below.alloc ?_ (by first | exact Nat.le_refl _ | omega | (simp; done) | (simp; omega)) _))); rintro e w4 ⟨A1, c4, A2, d2, rfl, gs1, gs2, hb4⟩; have hb4z := hb4.size)
                  | (at_builtin; refine wpl_snoc pairR_stays (S := From w1.heap.size) _ rfl (.tmp 61) (.tmp 63) _ rfl w1.heap.size 50 i0 _ 2 48 Tryz.underlying46 hi0 hz0 hz1 hz2 rfl (by decide) _ (out ++ [p]) rfl ?hown _ _ [.slice A1 x.1.length c4, .slice A2 x.2.length d2] rfl rfl (new_src _ _ [.slice A1 x.1.length c4, .slice A2 x.2.length d2] _ (by simp)) (by simp [Value.oneCell']) ?hm ?hby ?hba x ?hd ?_; (case hown => (refine Own.below pairR_stays Hownq.out ?_; repeat' (first | exact Below.refl _ _ | assumption | refine Below.drew ?_ | refine below_drewN ?_ _ | refine Below.setCell ?_ (by first | (simp; done) | omega | (simp; omega)) _ | refine Below.alloc ?_ (by first | exact Nat.le_refl _ | omega | (simp; done) | (simp; omega)) _))); (case hm => ((try simp only [List.length_append, List.length_singleton]); simp only [maxLen]; omega)); (case hby => ((try simp only [List.length_append, List.length_singleton]); omega)); (case hba => (simp; omega)); (case hd => (refine pair_fresh (n := wq.heap.size) gs1 gs2 hb1 hb2 ?_ (by first | exact Nat.le_refl _ | omega | (simp; done) | (simp; omega)) (Hownq.out.apart _ (Nat.le_refl _)); repeat' (first | exact Same.refl _ _ | assumption | refine Same.drew ?_ | refine Same.drewN ?_ _ | refine Same.alloc ?_ _ | refine Same.setCell ?_ (fun hq => by simp only [From] at hq; first | omega | (simp at hq; done) | (simp at hq; omega)) _))); intro v1 w5 hown2 hbw2))
                go_roundw
                case rel => exact ⟨j + 1, by omega, by go_num, by rw [Hst.out, Hq.out], by rw [Hst.out, Hq.out]; simpa using hown2, (((hbq.next hb4 hbqz).alloc (by first | exact Nat.le_refl _ | omega | (simp; done) | (simp; omega)) _).alloc (by first | exact Nat.le_refl _ | omega | (simp; done) | (simp; omega)) _).trans hbw2⟩
                case measure => simp [intOf]; omega
        · obtain rfl : j = l.length := by omega
          have Hput : ∀ s, putFold p (l.take l.length) = s → putAll p l = (if s.2 then s.1 else s.1 ++ [p]) := fun s hs => by rw [List.take_length] at hs; simp only [putAll, hs]
          have hlen := putFold_len p l l.length (Nat.le_refl _)
          generalize putFold p (l.take l.length) = s at *
          have Hval := Lib.hid (Hput s rfl)
          obtain ⟨out, dn⟩ := s
          have h60 := Hl.out
          dsimp only at hlen
          clear Hput
          have hb0 : Below w.heap.size w wr := Hb01.out.next hbel (by omega)
          cases dn with
          | true =>
            obtain ⟨A5, c5, rfl, hcc5, hsl⟩ := hown.readc pairR_stays
            by_cases hbig : 60 < out.length
            · have Hv := Lib.hid (show putS l p = ([], 11) by simp [putS, Hpp.out, Hval.out, hbig])
              clear hown hsl
              go_wp2
              go_ret2
              rw [Hv.out]
              exact ⟨none, 0, rfl, Nat.le_refl _, SL.nil, hb0⟩
            · have Hv := Lib.hid (show putS l p = (out, 0) by simp [putS, Hpp.out, Hval.out, hbig])
              have Hsl := Lib.hid hsl
              clear hown hsl
              go_wp2
              go_ret2
              rw [Hv.out]
              exact ⟨A5, c5, rfl, hcc5, Hsl.out.lo pairR_stays (by omega), hb0⟩
          | false =>
            have Hown := Lib.hid hown
            obtain ⟨g0, g1, _, _⟩ := box2 ((hbel.block _ hzb).trans Hbox.out)
            clear hown
            by_cases hbig : 60 < out.length + 1
            · have Hv := Lib.hid (show putS l p = ([], 11) by simp [putS, Hpp.out, Hval.out, hbig])
              go_wp2_with (first
                | (go_at_call 98; (with_reducible refine (pairCopy_ok _ P Q p pc pd ?h1 ?h2 Hpb.out.1 Hpb.out.2).mono ?_); (case h1 => (refine Hp11.out.bbelow ?_; repeat' (first | exact Below.refl _ _ | assumption | refine Below.drew ?_ | refine below_drewN ?_ _ | refine Below.setCell ?_ (by first | (simp; done) | omega | (simp; omega)) _ | refine Below.alloc ?_ (by first | exact Nat.le_refl _ | omega | (simp; done) | (simp; omega)) _))); (case h2 => (refine Hp21.out.bbelow ?_; repeat' (first | exact Below.refl _ _ | assumption | refine Below.drew ?_ | refine below_drewN ?_ _ | refine Below.setCell ?_ (by first | (simp; done) | omega | (simp; omega)) _ | refine Below.alloc ?_ (by first | exact Nat.le_refl _ | omega | (simp; done) | (simp; omega)) _))); rintro e w4 ⟨A1, c4, A2, d2, rfl, gs1, gs2, hb4⟩; have hb4z := hb4.size)
                | (at_builtin; refine wpl_snoc pairR_stays (S := From w1.heap.size) _ rfl (.tmp 69) (.tmp 71) _ rfl w1.heap.size 50 i0 _ 2 48 Tryz.underlying46 hi0 hz0 hz1 hz2 rfl (by decide) _ (out) rfl ?hown _ _ [.slice A1 p.1.length c4, .slice A2 p.2.length d2] rfl rfl (new_src _ _ [.slice A1 p.1.length c4, .slice A2 p.2.length d2] _ (by simp)) (by simp [Value.oneCell']) ?hm ?hby ?hba p ?hd ?_; (case hown => (refine Own.below pairR_stays Hown.out ?_; repeat' (first | exact Below.refl _ _ | assumption | refine Below.drew ?_ | refine below_drewN ?_ _ | refine Below.setCell ?_ (by first | (simp; done) | omega | (simp; omega)) _ | refine Below.alloc ?_ (by first | exact Nat.le_refl _ | omega | (simp; done) | (simp; omega)) _))); (case hm => ((try simp only [List.length_append, List.length_singleton]); simp only [maxLen]; omega)); (case hby => ((try simp only [List.length_append, List.length_singleton]); omega)); (case hba => (simp; omega)); (case hd => (refine pair_fresh (n := wr.heap.size) gs1 gs2 Hpb.out.1 Hpb.out.2 ?_ (by first | exact Nat.le_refl _ | omega | (simp; done) | (simp; omega)) (Hown.out.apart _ (Nat.le_refl _)); repeat' (first | exact Same.refl _ _ | assumption | refine Same.drew ?_ | refine Same.drewN ?_ _ | refine Same.alloc ?_ _ | refine Same.setCell ?_ (fun hq => by simp only [From] at hq; first | omega | (simp at hq; done) | (simp at hq; omega)) _))); intro v1 w5 hown2 hbw2; obtain ⟨A5, c5, rfl, hcc5, hsl⟩ := hown2.readc pairR_stays; have Hcc5 := Lib.hid hcc5; clear hcc5; rw [List.length_append, List.length_singleton]; have Hsl := Lib.hid hsl; clear hsl hown2; have hb15 : Below w1.heap.size w1 w5 := (((hbel.next hb4 hbz).alloc (by first | exact Nat.le_refl _ | omega | (simp; done) | (simp; omega)) _).alloc (by first | exact Nat.le_refl _ | omega | (simp; done) | (simp; omega)) _).trans hbw2; have hb05 : Below w.heap.size w w5 := Hb01.out.next hb15 (by omega)))
              go_ret2
              rw [Hv.out]
              exact ⟨none, 0, rfl, Nat.le_refl _, SL.nil, hb05⟩
            · have Hv := Lib.hid (show putS l p = (out ++ [p], 0) by simp [putS, Hpp.out, Hval.out, hbig])
              go_wp2_with (first
                | (go_at_call 98; (with_reducible refine (pairCopy_ok _ P Q p pc pd ?h1 ?h2 Hpb.out.1 Hpb.out.2).mono ?_); (case h1 => (refine Hp11.out.bbelow ?_; repeat' (first | exact Below.refl _ _ | assumption | refine Below.drew ?_ | refine below_drewN ?_ _ | refine Below.setCell ?_ (by first | (simp; done) | omega | (simp; omega)) _ | refine Below.alloc ?_ (by first | exact Nat.le_refl _ | omega | (simp; done) | (simp; omega)) _))); (case h2 => (refine Hp21.out.bbelow ?_; repeat' (first | exact Below.refl _ _ | assumption | refine Below.drew ?_ | refine below_drewN ?_ _ | refine Below.setCell ?_ (by first | (simp; done) | omega | (simp; omega)) _ | refine Below.alloc ?_ (by first | exact Nat.le_refl _ | omega | (simp; done) | (simp; omega)) _))); rintro e w4 ⟨A1, c4, A2, d2, rfl, gs1, gs2, hb4⟩; have hb4z := hb4.size)
                | (at_builtin; refine wpl_snoc pairR_stays (S := From w1.heap.size) _ rfl (.tmp 69) (.tmp 71) _ rfl w1.heap.size 50 i0 _ 2 48 Tryz.underlying46 hi0 hz0 hz1 hz2 rfl (by decide) _ (out) rfl ?hown _ _ [.slice A1 p.1.length c4, .slice A2 p.2.length d2] rfl rfl (new_src _ _ [.slice A1 p.1.length c4, .slice A2 p.2.length d2] _ (by simp)) (by simp [Value.oneCell']) ?hm ?hby ?hba p ?hd ?_; (case hown => (refine Own.below pairR_stays Hown.out ?_; repeat' (first | exact Below.refl _ _ | assumption | refine Below.drew ?_ | refine below_drewN ?_ _ | refine Below.setCell ?_ (by first | (simp; done) | omega | (simp; omega)) _ | refine Below.alloc ?_ (by first | exact Nat.le_refl _ | omega | (simp; done) | (simp; omega)) _))); (case hm => ((try simp only [List.length_append, List.length_singleton]); simp only [maxLen]; omega)); (case hby => ((try simp only [List.length_append, List.length_singleton]); omega)); (case hba => (simp; omega)); (case hd => (refine pair_fresh (n := wr.heap.size) gs1 gs2 Hpb.out.1 Hpb.out.2 ?_ (by first | exact Nat.le_refl _ | omega | (simp; done) | (simp; omega)) (Hown.out.apart _ (Nat.le_refl _)); repeat' (first | exact Same.refl _ _ | assumption | refine Same.drew ?_ | refine Same.drewN ?_ _ | refine Same.alloc ?_ _ | refine Same.setCell ?_ (fun hq => by simp only [From] at hq; first | omega | (simp at hq; done) | (simp at hq; omega)) _))); intro v1 w5 hown2 hbw2; obtain ⟨A5, c5, rfl, hcc5, hsl⟩ := hown2.readc pairR_stays; have Hcc5 := Lib.hid hcc5; clear hcc5; rw [List.length_append, List.length_singleton]; have Hsl := Lib.hid hsl; clear hsl hown2; have hb15 : Below w1.heap.size w1 w5 := (((hbel.next hb4 hbz).alloc (by first | exact Nat.le_refl _ | omega | (simp; done) | (simp; omega)) _).alloc (by first | exact Nat.le_refl _ | omega | (simp; done) | (simp; omega)) _).trans hbw2; have hb05 : Below w.heap.size w w5 := Hb01.out.next hb15 (by omega)))
              go_ret2
              rw [Hv.out]
              exact ⟨A5, c5, by simp, Hcc5.out, Hsl.out.lo pairR_stays (by omega), hb05⟩
    · have b2 : (pairFaultS p != 0) = true := by simpa using h2
      have Hv := Lib.hid (show putS l p = ([], pairFaultS p) by simp [putS, ppFault, h1, h2])
      clear h1 h2
      go_enter Tryz.func90, Tryz.ntmps90
      go_wp2_with (first
        | (go_at_call 87; refine (pairsFault_ok _ A l c (Ha.out.below pairR_stays ?_)).mono ?_; (repeat' (first | exact Below.refl _ _ | assumption | refine Below.drew ?_ | refine below_drewN ?_ _ | refine Below.alloc ?_ (by first | exact Nat.le_refl _ | omega | (simp; done) | (simp; omega)) _)); rintro e w2 ⟨rfl, hb2⟩; have hg0 : w2.cell? ⟨w.heap.size, 0, none⟩ = some (.slice P p.1.length pc) := (hb2.cell (by first | (simp; done) | omega | (simp; omega))).trans (by simp); have hg1 : w2.cell? ⟨w.heap.size, 1, none⟩ = some (.slice Q p.2.length pd) := (hb2.cell (by first | (simp; done) | omega | (simp; omega))).trans (by simp))
        | (go_at_call 86; refine (pairFault_ok _ P Q p pc pd).mono ?_; rintro e w1 ⟨rfl, hb1⟩))
      go_ret2
      rw [Hv.out]
      exact ⟨none, 0, rfl, Nat.le_refl _, SL.nil, (((Below.refl w.heap.size w).alloc (Nat.le_refl _) _).next hb2 (by first | (simp; done) | omega | (simp; omega))).next hb1 (by have hz := hb2.size; simp at hz; omega)⟩
  · have b1 : (pairsFaultS l == 0) = false := by simp [h1]
    have b2 : (pairsFaultS l != 0) = true := by simpa using h1
    have Hv := Lib.hid (show putS l p = ([], pairsFaultS l) by simp [putS, ppFault, h1])
    clear h1
    go_enter Tryz.func90, Tryz.ntmps90
    go_wp2_with (go_at_call 87; refine (pairsFault_ok _ A l c (Ha.out.below pairR_stays ?_)).mono ?_; (repeat' (first | exact Below.refl _ _ | assumption | refine Below.drew ?_ | refine below_drewN ?_ _ | refine Below.alloc ?_ (by first | exact Nat.le_refl _ | omega | (simp; done) | (simp; omega)) _)); rintro e w2 ⟨rfl, hb2⟩)
    go_ret2
    rw [Hv.out]
    exact ⟨none, 0, rfl, Nat.le_refl _, SL.nil, ((Below.refl w.heap.size w).alloc (Nat.le_refl _) _).next hb2 (by first | (simp; done) | omega | (simp; omega))⟩
end Go.Proofs.YthohkgggodhbcaaGreat
namespace Go.Proofs.YthohkgggodhbcaaGreat
open Go.RowKit
set_option linter.unusedVariables false
set_option linter.unusedSimpArgs false

def notKey (k : List UInt8) (p : Pr) : Bool := !(p.1 == k)
def delS (l : List Pr) (k : List UInt8) : List Pr × Int := if pkFault l k ≠ 0 then ([], pkFault l k) else (l.filter (notKey k), 0)
set_option maxRecDepth 100000 in
set_option maxHeartbeats 1000000 in
theorem deletedOf_ok (w : World) (A : Option Addr) (l : List Pr) (c : Nat) (K : Option Addr) (k : List UInt8) (c1 : Nat) (ha : Ps All w A l) (hk : Bs All w K k) :
    Calls Tryz.prog 89 #[.slice A l.length c, .slice K k.length c1] w (RetPE w (delS l k)) := by
  obtain ⟨i0, hi0, hz0, hz1, hz2⟩ := info_parts info_pair
  have Ha := Lib.hid ha
  have Hk := Lib.hid hk
  clear ha hk
  by_cases h1 : pkFault l k = 0
  · have hpf := pk_fine h1
    have b1 : (pkFault l k != 0) = false := by simp [h1]
    have Hv := Lib.hid (show delS l k = (l.filter (notKey k), 0) by simp [delS, h1])
    obtain ⟨hl60, hlf, _⟩ := pairs_fine hpf.1
    have Hl := Lib.hid hl60
    clear h1 hpf hlf
    go_enter Tryz.func89, Tryz.ntmps89
    go_wp2_with (go_at_call 99; refine (pairsAndKey_ok _ A l c K k c1 Ha.out).mono ?_; rintro e w1 ⟨rfl, hb1⟩)
    clear b1
    have Hb1 := Lib.hid hb1
    clear hb1
    go_loopw [7, 8] (fun v i wr => ∃ j : Nat, j ≤ l.length ∧ i = .int .i64 j ∧ Own 2 PairR (From w.heap.size) wr w.heap.size 50 v ((l.take j).filter (notKey k)) ∧ Below w.heap.size w wr) (fun _ i _ => l.length - (intOf i).toNat)
    case atStart => exact ⟨0, by omega, rfl, Own.nil _ _ _, Hb1.out⟩
    case round =>
      obtain ⟨j, hj, rfl, hown, hbel⟩ := hrel
      have Hbel := Lib.hid hbel
      have Hown := Lib.hid hown
      clear hown hbel
      by_cases hlt : j < l.length
      · obtain ⟨ab, ao, K0, c3, V0, d3, rfl, _, hal, hc1, hc2, hs1, hs2, hb1, hb2⟩ := pairs_at (Ha.out.below pairR_stays Hbel.out) hlt
        have Hkr := Lib.hid (Hk.out.bbelow Hbel.out)
        have Hsn := Lib.hid (filter_snoc (q := notKey k) hlt)
        have hlen : ((l.take j).filter (notKey k)).length ≤ 60 := by have h1 := List.length_filter_le (notKey k) (l.take j); have h2 := Hl.out; rw [List.length_take] at h1; omega
        have Hlen := Lib.hid hlen
        clear hlen
        generalize l[j] = x at *
        rcases Bool.eq_false_or_eq_true (x.1 == k) with h1 | h1
        · have Hq := Lib.hid (show notKey k x = false by simp [notKey, h1])
          go_wp2_with (go_at_call 35; (with_reducible refine (refSameBytes_ok _ K0 K x.1 k c3 c1 hs1.bz Hkr.out).mono ?_); rintro e w2 ⟨rfl, rfl⟩)
          go_roundw
          case rel => exact ⟨j + 1, by omega, by go_num, by rw [Hsn.out, Hq.out]; simpa using Hown.out, Hbel.out⟩
          case measure => simp [intOf]; omega
        · have Hq := Lib.hid (show notKey k x = true by simp [notKey, h1])
          go_wp2_with (first
            | (go_at_call 35; (with_reducible refine (refSameBytes_ok _ K0 K x.1 k c3 c1 hs1.bz Hkr.out).mono ?_); rintro e w2 ⟨rfl, rfl⟩)
            | (go_at_call 98; refine (pairCopy_ok _ K0 V0 x c3 d3 hs1.bz hs2.bz hb1 hb2).mono ?_; rintro e w4 ⟨A1, c4, A2, d2, rfl, gs1, gs2, hbw1⟩)
            | (at_builtin; refine wpl_snoc pairR_stays (S := From w.heap.size) _ rfl _ _ _ rfl w.heap.size 50 i0 _ 2 48 Tryz.underlying46 hi0 hz0 hz1 hz2 rfl (by decide) _ ((l.take j).filter (notKey k)) rfl ?hown _ _ [.slice A1 x.1.length c4, .slice A2 x.2.length d2] rfl rfl (new_src _ _ [.slice A1 x.1.length c4, .slice A2 x.2.length d2] _ (by simp)) (by simp [Value.oneCell']) ?hm ?hby ?hba x ?hd ?_; (case hown => exact (Hown.out.below pairR_stays hbw1).same pairR_stays (((Same.refl _ _).alloc _).alloc _)); (case hm => have := Hlen.out; simp only [maxLen]; omega); (case hby => have := Hlen.out; omega); (case hba => have hz1 := Hbel.out.size; have hz2 := hbw1.size; simp; omega); (case hd => exact ⟨A1, c4, A2, d2, rfl, (gs1.bsame (((Same.refl _ _).alloc _).alloc _)).bless fun b _ hs => ⟨Nat.le_trans Hbel.out.size hs, Hown.out.apart _ (Nat.le_refl _) b hs⟩, (gs2.bsame (((Same.refl _ _).alloc _).alloc _)).bless fun b _ hs => ⟨Nat.le_trans Hbel.out.size hs, Hown.out.apart _ (Nat.le_refl _) b hs⟩, hb1, hb2⟩); intro v1 w5 hown2 hbw2))
          go_roundw
          case rel => exact ⟨j + 1, by omega, by go_num, by rw [Hsn.out, Hq.out]; exact hown2, (((Hbel.out.next hbw1 Hbel.out.size).alloc (by have hz1 := Hbel.out.size; have hz2 := hbw1.size; omega) _).alloc (by have hz1 := Hbel.out.size; have hz2 := hbw1.size; simp; omega) _).trans hbw2⟩
          case measure => simp [intOf]; omega
      · obtain rfl : j = l.length := by omega
        go_wp2
        go_ret2
        have h := Hown.out
        rw [List.take_length] at h
        obtain ⟨A', c', rfl, hcc, hsl⟩ := h.readc pairR_stays
        rw [Hv.out]
        exact ⟨A', c', rfl, hcc, hsl, Hbel.out⟩
  · have b1 : (pkFault l k != 0) = true := by simpa using h1
    have Hv := Lib.hid (show delS l k = ([], pkFault l k) by simp [delS, h1])
    clear h1
    go_enter Tryz.func89, Tryz.ntmps89
    go_wp2_with (go_at_call 99; refine (pairsAndKey_ok _ A l c K k c1 Ha.out).mono ?_; rintro e w1 ⟨rfl, hb1⟩)
    go_ret2
    rw [Hv.out]
    exact ⟨none, 0, rfl, Nat.le_refl _, SL.nil, hb1⟩
end Go.Proofs.YthohkgggodhbcaaGreat
namespace Go.Proofs.YthohkgggodhbcaaGreat
open Go.RowKit
set_option linter.unusedVariables false
set_option linter.unusedSimpArgs false

theorem run_clear_one {P : Program} (w : World) (t e ty : TypeId) (z : Value) (zs : List Value) (ht : P.underlying t = some (.slice e)) (hv : ∀ w, (zeroValue e).run P w = .ok z w) (hz : z.cells = zs.toArray) (h1 : ∀ v ∈ zs, v.oneCell' = true) (b o c : Nat)
    (hc : ∀ j, j < zs.length → (w.cell? ⟨b, o + j, none⟩).isSome = true) (hf : ∀ j, j < zs.length → w.frozen? ⟨b, o + j, none⟩ = false) :
    (Builtin.clear_ #[t] ty #[.slice (some ⟨b, o, none⟩) 1 c]).run P w = .ok (.tuple #[]) (w.setCells b o zs) := by
  have hzc : (Builtin.zeroCells z.cells 1).toList = zs := by
    rw [hz]
    apply List.ext_getElem
    · simp [Builtin.zeroCells]
    · intro i h1 h2
      simp [Builtin.zeroCells, Nat.mod_eq_of_lt h2, List.getElem?_eq_getElem h2]
  have hst := run_storeCells_cells (P := P) b o zs 0 w (by simpa using hc) (by simpa using hf) h1
  simp only [Nat.add_zero] at hst
  simp [Builtin.clear_, run_underlying ht, hv, hzc, hst]
theorem wpl_clear {P : Program} {w : World} {ops : Array Oper} {rest : List Oper} {o : Oper} {a : Act} {Q : Exit → Act → World → Prop} (hgd : o.guard = none) (x : Operand) (t : TypeId)
    (ho : o.op = .call { callee := .builtin .clear, args := #[x], argTypes := #[t] })
    (e : TypeId) (z : Value) (zs : List Value) (ht : P.underlying t = some (.slice e)) (hv : ∀ w, (zeroValue e).run P w = .ok z w) (hz : z.cells = zs.toArray) (h1 : ∀ v ∈ zs, v.oneCell' = true) (b off c : Nat) (hx : a.eval x = .slice (some ⟨b, off, none⟩) 1 c)
    (hc : ∀ j, j < zs.length → (w.cell? ⟨b, off + j, none⟩).isSome = true) (hf : ∀ j, j < zs.length → w.frozen? ⟨b, off + j, none⟩ = false)
    (h : wpList P ops Q rest (a.put o.dst (.tuple #[])) (w.setCells b off zs)) : wpList P ops Q (o :: rest) a w :=
  wpList_plain hgd fun _ hK => by
    have hrun := run_clear_one (P := P) w t e o.type z zs ht hv hz h1 b off c hc hf
    unfold Oper.wp execOp
    simp only [ho, resolve, invoke, builtin, Sem.run_bind, Sem.run_pure, Result.andThen_ok, List.map_toArray, List.map_cons, List.map_nil, hx, hrun]
    exact hK _ _ h
theorem zero_pair (w : World) : (zeroValue 50).run Tryz.prog w = .ok (.agg #[.slice none 0 0, .slice none 0 0]) w := by
  obtain ⟨i0, hi0, hz0, _, _⟩ := info_parts info_pair
  simp [zeroValue, typeInfo, hi0, hz0]
theorem own_one {S : Nat → Prop} {w : World} {l : List Pr} {xs : List Value} (hl : xs.length = l.length * 2) (h : ∀ i (h : i < l.length), PairR S w ((xs.drop (i * 2)).take 2) l[i]) : ∀ u ∈ xs, u.oneCell' = true := by
  intro u hu
  obtain ⟨j, hj, rfl⟩ := List.mem_iff_getElem.1 hu
  obtain ⟨A, c, V, d, hcs, _⟩ := h (j / 2) (by omega)
  have hin : xs[j] ∈ (xs.drop (j / 2 * 2)).take 2 := by
    refine List.mem_iff_getElem?.2 ⟨j % 2, ?_⟩
    rw [List.getElem?_take_of_lt (by omega), List.getElem?_drop, show j / 2 * 2 + j % 2 = j by omega, List.getElem?_eq_getElem hj]
  rw [hcs] at hin
  simp only [List.mem_cons, List.not_mem_nil, or_false] at hin
  rcases hin with e | e <;> rw [e] <;> rfl
/-- What slices.Delete leaves. -/
def cut1 (l : List Pr) (i : Nat) : List Pr := l.take i ++ l.drop (i + 1)
theorem cut1_at (l : List Pr) (i p : Nat) (hi : i < l.length) : (cut1 l i)[p]? = if p < i then l[p]? else l[p + 1]? := by
  unfold cut1
  split
  · rename_i h
    rw [List.getElem?_append_left (by rw [List.length_take]; omega), List.getElem?_take_of_lt h]
  · rw [List.getElem?_append_right (by rw [List.length_take]; omega), List.getElem?_drop]
    congr 1
    rw [List.length_take]
    omega
set_option maxRecDepth 1000000 in
set_option maxHeartbeats 1600000 in
theorem sdelete_ok (w : World) (base : Nat) (v : Value) (l : List Pr) (i : Nat) (hown : Own 2 PairR (From base) w base 50 v l) (hi : i < l.length) (hb : base ≤ w.heap.size) :
    Calls Tryz.prog 92 #[v, .int .i64 i, .int .i64 (i + 1)] w (fun e w' => ∃ A c, e = .returned (.slice A (cut1 l i).length c) ∧ (cut1 l i).length ≤ c ∧ Ps (From base) w' A (cut1 l i) ∧ Below base w w') := by
  obtain ⟨i0, hi0, hz0, hz1, hz2⟩ := info_parts info_pair
  obtain ⟨xs, hrow, hels⟩ := hown
  obtain ⟨hxl, hr⟩ := hrow
  rcases hr with ⟨_, h0⟩ | ⟨g, cap, cur, rfl, hg, hheap, hcap, hmx, hcur, htake⟩
  · omega
  have hglt : g < w.heap.size := (Array.getElem?_eq_some_iff.1 hheap).1
  obtain ⟨n, hn⟩ : ∃ n, n = l.length := ⟨_, rfl⟩
  rw [← hn] at hi hxl hcap htake
  have hcell : ∀ j, j < 2 * n → w.cell? ⟨g, j, none⟩ = xs[j]? := by
    intro j hj
    rw [← htake, List.getElem?_take_of_lt (by omega), Array.getElem?_toList]
    simp [World.cell?, hheap]
  have hfroz : ∀ j, w.frozen? ⟨g, j, none⟩ = false := by
    intro j
    simp [World.frozen?, hheap]
  obtain ⟨news, hnews⟩ : ∃ news, news = xs.drop (2 * (i + 1)) := ⟨_, rfl⟩
  have hnl : news.length = (n - (i + 1)) * 2 := by rw [hnews, List.length_drop, hxl]; omega
  obtain ⟨A, hA, hAc⟩ : ∃ A, (if cap = i + 1 then some (⟨g, 0, none⟩ : Addr) else some ⟨g, (i + 1) * 2, none⟩) = some A ∧ Hid (∀ j u, news[j]? = some u → w.drew.cell? (A.add j) = some u) := by
    by_cases hc : cap = i + 1
    · refine ⟨_, by rw [if_pos hc], ?_⟩
      intro j u hu
      have := (List.getElem?_eq_some_iff.1 hu).1
      omega
    · refine ⟨_, by rw [if_neg hc], ?_⟩
      intro j u hu
      have hj := (List.getElem?_eq_some_iff.1 hu).1
      rw [hnews, List.getElem?_drop] at hu
      rw [add_at]
      exact (hcell ((i + 1) * 2 + j) (by omega)).trans (by rw [← hu]; congr 1; omega)
  have S1 := Lib.hid hnl
  have S2 : Hid (∀ u ∈ news, u.oneCell' = true) := by
    intro u hu
    rw [hnews] at hu
    exact own_one (by rw [hxl, hn]) hels u (List.mem_of_mem_drop hu)
  have S3 : Hid (∀ j, j < news.length → (w.drew.cell? ⟨g, 0 + i * 2 + j, none⟩).isSome = true ∧ w.drew.frozen? ⟨g, 0 + i * 2 + j, none⟩ = false) := by
    intro j hj
    refine ⟨?_, hfroz _⟩
    have := hcell (i * 2 + j) (by omega)
    show (w.cell? _).isSome = true
    rw [Nat.zero_add, this, List.getElem?_eq_getElem (by omega)]
    rfl
  have hwr : IntKind.i64.wrap ((i : Int) + 1) = (i : Int) + 1 := by rw [IntKind.wrap_i64]; simp only [maxLen] at hmx; omega
  have hp0 : (0 : Int) ≤ (i : Int) + 1 := by omega
  have hp1 : (i : Int) + 1 ≤ (n : Int) := by omega
  have hp2 : ((i : Int) + 1).toNat = i + 1 := by omega
  have hp3 : ((i : Int) == (i : Int) + 1) = false := by simp; omega
  have hic : i ≤ cap := by omega
  have Hels := Lib.hid hels
  have Hheap := Lib.hid hheap
  have Hcell := Lib.hid hcell
  have Hfroz := Lib.hid hfroz
  have Htake := Lib.hid htake
  have Hnews := Lib.hid hnews
  have Hmx := Lib.hid hmx
  have Hcur := Lib.hid hcur
  have hcap' : n ≤ cap := hcap
  clear hels hheap hcell hfroz htake hnews hmx hcur hnl
  rw [← hn]
  have Hn := Lib.hid hn
  clear hn
  go_enter Tryz.func92, Tryz.ntmps92
  go_wp2_with fail
  go_region_law (refine step_append_room rfl (.tmp 22) (.tmp 25) 46 rfl 50 i0 2 Tryz.underlying46 hi0 hz1 g 0 i cap (by simp [Act.eval, Act.put]) A (n - (i + 1)) (cap - (i + 1)) news (by simp [Act.eval, Act.put]; try assumption) S1.out hAc.out S2.out (by omega) S3.out ?_)
  have Hc2 : Hid (∀ j, j < [Value.slice none 0 0, Value.slice none 0 0].length → (((w.drew.setCells g (i * 2) news)).cell? ⟨g, (i + (n - (i + 1))) * 2 + j, none⟩).isSome = true) := by
    intro j hj
    have hj2 : j < 2 := hj
    refine World.isSome_setCells g news _ _ _ ?_
    show (w.cell? _).isSome = true
    rw [Hcell.out _ (by omega), List.getElem?_eq_getElem (by omega)]
    rfl
  have Hf2 : Hid (∀ j, j < [Value.slice none 0 0, Value.slice none 0 0].length → (((w.drew.setCells g (i * 2) news)).frozen? ⟨g, (i + (n - (i + 1))) * 2 + j, none⟩) = false) := by
    intro j _
    rw [World.frozen?_setCells]
    exact Hfroz.out _
  go_wp2_with (refine wpl_clear rfl _ _ rfl 50 _ [.slice none 0 0, .slice none 0 0] Tryz.underlying46 zero_pair rfl (by simp [Value.oneCell']) g ((i + (n - (i + 1))) * 2) (cap - (i + (n - (i + 1)))) ?hx Hc2.out Hf2.out ?_; (case hx => simp [Act.eval]; omega))
  go_ret
  have hcut : (cut1 l i).length = i + (n - (i + 1)) := by unfold cut1; rw [List.length_append, List.length_take, List.length_drop, ← Hn.out]; omega
  have hbw : Below base w ((w.drew.setCells g (i * 2) news).setCells g ((i + (n - (i + 1))) * 2) [.slice none 0 0, .slice none 0 0]) := below_setCells' hg _ _ (below_setCells' hg _ _ (Below.refl _ _).drew)
  rw [hcut]
  refine ⟨some ⟨g, 0, none⟩, cap, by simp, by omega, ?_, hbw⟩
  intro hl
  refine ⟨g, 0, rfl, hg, Nat.lt_of_lt_of_le hglt hbw.size, fun p hp => ?_⟩
  have hpn : p < i + (n - (i + 1)) := by rw [← hcut]; exact hp
  obtain ⟨q, hq, hq'⟩ : ∃ q, q < n ∧ ((q = p ∧ p < i) ∨ (q = p + 1 ∧ i ≤ p)) := by
    by_cases h : p < i
    · exact ⟨p, by omega, .inl ⟨rfl, h⟩⟩
    · exact ⟨p + 1, by omega, .inr ⟨rfl, by omega⟩⟩
  have hlq : q < l.length := by rw [← Hn.out]; exact hq
  have hget : (cut1 l i)[p] = l[q] := by
    have e := cut1_at l i p (by rw [← Hn.out]; exact hi)
    rw [List.getElem?_eq_getElem hp] at e
    rcases hq' with ⟨rfl, h⟩ | ⟨rfl, h⟩
    · rw [if_pos h, List.getElem?_eq_getElem hlq] at e
      exact Option.some.inj e
    · rw [if_neg (by omega), List.getElem?_eq_getElem hlq] at e
      exact Option.some.inj e
  have hR := Hels.out q hlq
  have hsame : Same (fun b => From base b ∧ (Value.slice (some ⟨g, 0, none⟩) n cap).ownBlock ≠ some b) w ((w.drew.setCells g (i * 2) news).setCells g ((i + (n - (i + 1))) * 2) [.slice none 0 0, .slice none 0 0]) :=
    Same.setCells (by simp [Value.ownBlock]) _ _ (Same.setCells (by simp [Value.ownBlock]) _ _ (Same.refl _ _).drew)
  refine ⟨(xs.drop (q * 2)).take 2, by rw [List.length_take, List.length_drop, hxl]; omega, fun j hj => ?_, ?_⟩
  · rw [World.cell?_setCells_out g _ _ _ _ (fun _ _ => by left; show 0 + p * 2 + j < _; omega), List.getElem?_take_of_lt hj, List.getElem?_drop]
    rcases hq' with ⟨rfl, h⟩ | ⟨rfl, h⟩
    · rw [World.cell?_setCells_out g _ _ _ _ (fun _ _ => by left; show 0 + q * 2 + j < _; omega)]
      show w.cell? _ = _
      rw [Hcell.out _ (by omega)]
      congr 1
      omega
    · have hjn : p * 2 + j - i * 2 < news.length := by rw [S1.out]; omega
      have hin := World.cell?_setCells_in g news (i * 2) w.drew (fun k hk => by rw [← Nat.zero_add (i * 2)]; exact (S3.out k hk).1) (p * 2 + j - i * 2) hjn
      rw [show 0 + p * 2 + j = i * 2 + (p * 2 + j - i * 2) by omega, hin, ← List.getElem?_eq_getElem hjn, Hnews.out, List.getElem?_drop]
      congr 1
      omega
  · rw [hget]
    exact pairR_stays.less _ _ _ _ _ (fun b _ hs => hs.1) (pairR_stays.same _ _ _ _ _ hsame hR)
end Go.Proofs.YthohkgggodhbcaaGreat
namespace Go.Proofs.YthohkgggodhbcaaGreat
open Go.RowKit
set_option linter.unusedVariables false
set_option linter.unusedSimpArgs false

theorem filter_cut {l : List Pr} {k : List UInt8} {i : Nat} (hr : Rise (keys l)) (hi : i < l.length) (h : l[i].1 = k) : l.filter (notKey k) = cut1 l i := by
  have hne : ∀ j (hj : j < l.length), j ≠ i → notKey k l[j] = true := by
    intro j hj hji
    have : l[j].1 ≠ k := fun e => hji (rise_inj hr (i := j) (j := i) (by simpa [keys] using hj) (by simpa [keys] using hi) (by simp [keys, e, h]))
    simpa [notKey] using this
  have e1 : l = l.take i ++ l[i] :: l.drop (i + 1) := by rw [← List.drop_eq_getElem_cons hi, List.take_append_drop]
  have h0 : notKey k l[i] = false := by simp [notKey, h]
  conv => lhs; rw [e1]
  rw [List.filter_append, List.filter_cons, if_neg (by simp [h0])]
  unfold cut1
  congr 1
  · refine List.filter_eq_self.2 fun p hp => ?_
    obtain ⟨j, hj, rfl⟩ := List.mem_iff_getElem.1 hp
    rw [List.length_take] at hj
    rw [List.getElem_take]
    exact hne j (by omega) (by omega)
  · refine List.filter_eq_self.2 fun p hp => ?_
    obtain ⟨j, hj, rfl⟩ := List.mem_iff_getElem.1 hp
    rw [List.length_drop] at hj
    rw [List.getElem_drop]
    exact hne _ (by omega) (by omega)
theorem filter_none {l : List Pr} {k : List UInt8} {i : Nat} (hr : Rise (keys l)) (hat : At (keys l) k i) (h : (keys l)[i]? ≠ some k) : l.filter (notKey k) = l := by
  refine List.filter_eq_self.2 fun p hp => ?_
  obtain ⟨j, hj, rfl⟩ := List.mem_iff_getElem.1 hp
  have hjk : j < (keys l).length := by simpa [keys] using hj
  have hne : l[j].1 ≠ k := by
    intro e
    have ek : (keys l)[j] = k := by simp [keys, e]
    rcases (by omega : j < i ∨ j = i ∨ i < j) with h1 | h1 | h1
    · have := hat.low j h1 hjk
      rw [ek, lt_irrefl] at this
      cases this
    · subst h1
      exact h (by rw [List.getElem?_eq_getElem hjk, ek])
    · have h2 := hat.high i (Nat.le_refl _) (by omega)
      have h3 := hr i j h1 hjk
      rw [ek, h2] at h3
      cases h3
  simpa [notKey] using hne
set_option maxRecDepth 100000 in
set_option maxHeartbeats 1000000 in
theorem treeDelete_ok (w : World) (A : Option Addr) (l : List Pr) (c : Nat) (K : Option Addr) (k : List UInt8) (c1 : Nat) (ha : Ps All w A l) (hk : Bs All w K k) :
    Calls Tryz.prog 75 #[.slice A l.length c, .slice K k.length c1] w (RetPE w (delS l k)) := by
  have Ha := Lib.hid ha
  have Hk := Lib.hid hk
  clear ha hk
  by_cases h1 : pairsFaultS l = 0
  · have b1 : (pairsFaultS l != 0) = false := by simp [h1]
    obtain ⟨hl60, _, hrise⟩ := pairs_fine h1
    have Hr := Lib.hid (show Rise (keys l) from hrise)
    have Hl := Lib.hid hl60
    have H1 := Lib.hid h1
    clear h1 hrise hl60
    by_cases h2 : keyFault k = 0
    · have b2 : (keyFault k != 0) = false := by simp [h2]
      have Hv := Lib.hid (show delS l k = (l.filter (notKey k), 0) by simp [delS, pkFault, H1.out, h2])
      clear h2
      go_enter Tryz.func75, Tryz.ntmps75
      go_wp2_with (first
        | (go_at_call 46; refine (treeCheck_ok _ A l c Ha.out).mono ?_; rintro e w1 ⟨rfl, hb1⟩)
        | (go_at_call 47; refine (pathCheck_ok _ K k c1).mono ?_; rintro e w' ⟨rfl, rfl⟩))
      clear b1 b2
      have Hb1 := Lib.hid hb1
      clear hb1
      refine (treeAll_own _ A l c (Ha.out.below pairR_stays Hb1.out) (by have := Hl.out; omega)).mono ?_
      rintro e w2 ⟨v, rfl, hown, hb2⟩
      obtain ⟨A2, c2, rfl, hc2, hs2⟩ := hown.readc pairR_stays
      have Hown := Lib.hid hown
      have Hs2 := Lib.hid hs2
      have Hb12 := Lib.hid hb2
      have Hb2 := Lib.hid (Hb1.out.next hb2 Hb1.out.size)
      clear hown hs2 hb2
      go_wp2_with fail
      refine (treeFind_ok _ A2 l c2 K k c1 (Hs2.out.z pairR_stays) (Hk.out.bbelow Hb2.out) Hl.out Hr.out).mono ?_
      rintro e w3 ⟨i, rfl, hati, hb3⟩
      have Hb3 := Lib.hid (Hb2.out.next hb3 Hb2.out.size)
      have Hown3 := Lib.hid (Hown.out.same pairR_stays (Same.of_below hb3))
      have Hs3 := Lib.hid (Hs2.out.below pairR_stays hb3)
      have Hsz := Lib.hid hb3.size
      clear hb3
      by_cases hf : (keys l)[i]? = some k
      · rw [decide_eq_true hf]
        have hik : i < (keys l).length := by
          rcases Nat.lt_or_ge i (keys l).length with h | h
          · exact h
          · rw [List.getElem?_eq_none h] at hf; cases hf
        have hil : i < l.length := by simpa [keys] using hik
        have hli : l[i].1 = k := by
          rw [List.getElem?_eq_getElem hik, keys_at] at hf
          exact Option.some.inj hf
        have Hcut := Lib.hid (filter_cut Hr.out hil hli)
        have hl60 := Hl.out
        have hwi : IntKind.i64.wrap ((i : Int) + 1) = (i : Int) + 1 := by rw [IntKind.wrap_i64]; omega
        clear hf hik hli hati
        go_wp2_with fail
        refine (sdelete_ok _ w1.heap.size _ l i Hown3.out hil (Nat.le_trans Hb12.out.size Hsz.out)).mono ?_
        rintro e w4 ⟨A4, c4, rfl, hc4, hs4, hb4⟩
        go_wp2
        go_ret2
        rw [Hv.out, Hcut.out]
        exact ⟨A4, c4, rfl, hc4, hs4.lo pairR_stays Hb1.out.size, Hb3.out.trans (hb4.mono Hb1.out.size)⟩
      · rw [decide_eq_false hf]
        have Hno := Lib.hid (filter_none Hr.out hati hf)
        clear hf hati
        go_wp2
        go_ret2
        rw [Hv.out, Hno.out]
        exact ⟨A2, c2, rfl, hc2, Hs3.out.lo pairR_stays Hb1.out.size, Hb3.out⟩
    · have b2 : (keyFault k != 0) = true := by simpa using h2
      have Hv := Lib.hid (show delS l k = ([], keyFault k) by simp [delS, pkFault, H1.out, h2])
      clear h2
      go_enter Tryz.func75, Tryz.ntmps75
      go_wp2_with (first
        | (go_at_call 46; refine (treeCheck_ok _ A l c Ha.out).mono ?_; rintro e w1 ⟨rfl, hb1⟩)
        | (go_at_call 47; refine (pathCheck_ok _ K k c1).mono ?_; rintro e w' ⟨rfl, rfl⟩))
      go_ret2
      rw [Hv.out]
      exact ⟨none, 0, rfl, Nat.le_refl _, SL.nil, hb1⟩
  · have b1 : (pairsFaultS l != 0) = true := by simpa using h1
    have Hv := Lib.hid (show delS l k = ([], pairsFaultS l) by simp [delS, pkFault, h1])
    clear h1
    go_enter Tryz.func75, Tryz.ntmps75
    go_wp2_with (go_at_call 46; refine (treeCheck_ok _ A l c Ha.out).mono ?_; rintro e w1 ⟨rfl, hb1⟩)
    go_ret2
    rw [Hv.out]
    exact ⟨none, 0, rfl, Nat.le_refl _, SL.nil, hb1⟩
theorem delS_len (l : List Pr) (k : List UInt8) : (delS l k).1.length ≤ l.length := by
  unfold delS
  split
  · simp
  · exact List.length_filter_le _ _
end Go.Proofs.YthohkgggodhbcaaGreat
namespace Go.Proofs.YthohkgggodhbcaaGreat
open Go.RowKit
set_option linter.unusedVariables false
set_option linter.unusedSimpArgs false

set_option maxRecDepth 100000 in
set_option maxHeartbeats 1000000 in
theorem treePut_ok (w : World) (A : Option Addr) (l : List Pr) (c : Nat) (P Q : Option Addr) (p : Pr) (pc pd : Nat) (ha : Ps All w A l) (hp1 : Bs All w P p.1) (hp2 : Bs All w Q p.2) :
    Calls Tryz.prog 76 #[.slice A l.length c, .agg #[.slice P p.1.length pc, .slice Q p.2.length pd]] w (RetPE w (putS l p)) := by
  have Ha := Lib.hid ha
  have Hp1 := Lib.hid hp1
  have Hp2 := Lib.hid hp2
  clear ha hp1 hp2
  by_cases h1 : pairsFaultS l = 0
  · have b1 : (pairsFaultS l != 0) = false := by simp [h1]
    obtain ⟨hl60, _, hrise⟩ := pairs_fine h1
    have Hr := Lib.hid (show Rise (keys l) from hrise)
    have Hl := Lib.hid hl60
    have H1 := Lib.hid h1
    clear h1 hrise
    by_cases h2 : pairFaultS p = 0
    · have b2 : (pairFaultS p != 0) = false := by simp [h2]
      have Hpp := Lib.hid (show ppFault l p = 0 by simp [ppFault, H1.out, h2])
      have Hpb := Lib.hid (pairFine_big h2)
      clear h2
      go_enter Tryz.func76, Tryz.ntmps76
      go_wp2_with (first
        | (go_at_call 46; refine (treeCheck_ok _ A l c (Ha.out.below pairR_stays ?_)).mono ?_; (repeat' (first | exact Below.refl _ _ | assumption | refine Below.drew ?_ | refine below_drewN ?_ _ | refine Below.alloc ?_ (by first | exact Nat.le_refl _ | omega | (simp; done) | (simp; omega)) _)); rintro e w2 ⟨rfl, hb2⟩; have hg0 : w2.cell? ⟨w.heap.size, 0, none⟩ = some (.slice P p.1.length pc) := (hb2.cell (by first | (simp; done) | omega | (simp; omega))).trans (by simp); have hg1 : w2.cell? ⟨w.heap.size, 1, none⟩ = some (.slice Q p.2.length pd) := (hb2.cell (by first | (simp; done) | omega | (simp; omega))).trans (by simp))
        | (go_at_call 66; refine (treePair_ok _ P Q p pc pd).mono ?_; rintro e w1 ⟨rfl, hb1⟩))
      clear b1 b2
      have hbox : w2.heap[w.heap.size]? = some (.cells #[.slice P p.1.length pc, .slice Q p.2.length pd] 50 (0, 0)) := (hb2.block w.heap.size (by first | (simp; done) | omega | (simp; omega))).trans (box_new w _ _)
      have hz2' : w.heap.size + 1 ≤ w2.heap.size := by have := hb2.size; simpa using this
      have hb02 : Below w.heap.size w w2 := ((Below.refl w.heap.size w).alloc (Nat.le_refl _) _).next hb2 (by first | (simp; done) | omega | (simp; omega))
      have hz1' : w2.heap.size ≤ w1.heap.size := hb1.size
      have hb01 : Below w.heap.size w w1 := hb02.next hb1 (by omega)
      have hbox1 : w1.heap[w.heap.size]? = some (.cells #[.slice P p.1.length pc, .slice Q p.2.length pd] 50 (0, 0)) := (hb1.block w.heap.size (by omega)).trans hbox
      have Hbox := Lib.hid hbox1
      have Hb1 := Lib.hid hb01
      have hzb : w.heap.size < w1.heap.size := by omega
      clear hbox hbox1 hb02 hb01 hb1 hb2 hz1' hz2' hg0 hg1
      refine (treeAll_own _ A l c (Ha.out.below pairR_stays Hb1.out) (by omega)).mono ?_
      rintro e w3 ⟨v, rfl, hown, hb3⟩
      obtain ⟨A2, c2, rfl, hc2, hs2⟩ := hown.readc pairR_stays
      have Hown := Lib.hid hown
      have Hs2 := Lib.hid hs2
      have Hb13 := Lib.hid hb3
      have Hb3 := Lib.hid (Hb1.out.next hb3 Hb1.out.size)
      obtain ⟨g0, g1, _, _⟩ := box2 ((hb3.block _ hzb).trans Hbox.out)
      clear hown hs2 hb3
      go_wp2_with fail
      refine (treeFind_ok _ A2 l c2 P p.1 pc (Hs2.out.z pairR_stays) (Hp1.out.bbelow Hb3.out) Hl.out Hr.out).mono ?_
      rintro e w4 ⟨i, rfl, hati, hb4⟩
      have Hb14 := Lib.hid (Hb13.out.next hb4 Hb13.out.size)
      have Hb4 := Lib.hid (Hb3.out.next hb4 Hb3.out.size)
      have Hown4 := Lib.hid (Hown.out.below pairR_stays hb4)
      obtain ⟨g0, g1, _, _⟩ := box2 ((Hb14.out.block _ hzb).trans Hbox.out)
      have hz14 := Hb14.out.size
      clear hb4
      by_cases hf : (keys l)[i]? = some p.1
      · rw [decide_eq_true hf]
        have hik : i < (keys l).length := by
          rcases Nat.lt_or_ge i (keys l).length with h | h
          · exact h
          · rw [List.getElem?_eq_none h] at hf; cases hf
        have hil : i < l.length := by simpa [keys] using hik
        have hli : l[i].1 = p.1 := by
          rw [List.getElem?_eq_getElem hik, keys_at] at hf
          exact Option.some.inj hf
        have Hset := Lib.hid (putAll_set Hr.out hil hli)
        have Hv := Lib.hid (show putS l p = (l.set i p, 0) by
          simp only [putS, Hpp.out, Hset.out]
          rw [if_neg (by simp), if_neg (by rw [List.length_set]; omega)])
        obtain ⟨g, cap, cur, css, hvv, hge, hglt, hh, hcap, hmx, hcur, _⟩ := Hown4.out.row pairR_stays (by omega)
        cases hvv
        have Hfacts := Lib.hid (show ∀ W, Below w4.heap.size w4 W → (∃ u, W.cell? ⟨g, i * 2, none⟩ = some u) ∧ (∃ u, W.cell? ⟨g, i * 2 + 1, none⟩ = some u) ∧ W.frozen? ⟨g, i * 2, none⟩ = false ∧ W.frozen? ⟨g, i * 2 + 1, none⟩ = false from fun W hW => by
          have hh' := (hW.block g hglt).trans hh
          have hc : ∀ j, j < c2 * 2 → ∃ u, W.cell? ⟨g, j, none⟩ = some u := fun j hj => by
            refine ⟨cur[j]'(by omega), ?_⟩
            rw [cell_of_row W g j cur _ _ hh', Array.getElem?_eq_getElem]
          exact ⟨hc _ (by omega), hc _ (by omega), frozen_of_row W g _ cur _ hh', frozen_of_row W g _ cur _ hh'⟩)
        have hi1 : (i : Int) < (l.length : Int) := by omega
        clear hf hik hli hati hh hcur hmx
        go_wp2_with (go_at_call 93; refine (treeOwn_ok _ P Q p pc pd (Hp1.out.bbelow Hb4.out) (Hp2.out.bbelow Hb4.out) Hpb.out.1 Hpb.out.2).mono ?_; rintro e w5 ⟨A5, c5, B5, d5, rfl, gs1, gs2, hb5⟩; obtain ⟨⟨u1, hu1⟩, ⟨u2, hu2⟩, hf1, hf2⟩ := Hfacts.out w5 hb5)
        go_ret2
        have hown6 := (Hown4.out.below pairR_stays hb5).put pairR_stays hil (c := [.slice A5 p.1.length c5, .slice B5 p.2.length d5]) rfl (x := p)
          ⟨A5, c5, B5, d5, rfl, gs1.bless (fun b _ h => ⟨by have h' := h; simp only [From] at h' ⊢; omega, by have h' := h; simp only [From] at h'; omega⟩), gs2.bless (fun b _ h => ⟨by have h' := h; simp only [From] at h' ⊢; omega, by have h' := h; simp only [From] at h'; omega⟩), Hpb.out.1, Hpb.out.2⟩
        have hl' : (l.set i p).length = l.length := List.length_set
        rw [← hl'] at hown6
        obtain ⟨A6, c6, he6, hc6, hs6⟩ := hown6.readc pairR_stays
        rw [Hv.out]
        cases he6
        refine ⟨some ⟨g, 0, none⟩, c2, by simp, hc6, hs6.lo pairR_stays (by omega), ?_⟩
        · exact Below.setCell (Below.setCell (Hb4.out.next hb5 (by omega)) (by simp only []; omega) _) (by simp only []; omega) _
      · rw [decide_eq_false hf]
        have Hins := Lib.hid (putAll_ins Hr.out hati hf)
        have hil : i ≤ l.length := by have := hati.le; simpa [keys] using this
        by_cases hfull : l.length = 60
        · have Hv := Lib.hid (show putS l p = ([], 11) by
            simp only [putS, Hpp.out, Hins.out]
            rw [if_neg (by simp), if_pos (by rw [ins_len]; omega)])
          have b3 : ((l.length : Int) == 60) = true := by simp; omega
          clear hf hati hfull
          go_wp2
          go_ret2
          rw [Hv.out]
          exact ⟨none, 0, rfl, Nat.le_refl _, SL.nil, Hb4.out⟩
        · have Hv := Lib.hid (show putS l p = (ins l i p, 0) by
            simp only [putS, Hpp.out, Hins.out]
            rw [if_neg (by simp), if_neg (by rw [ins_len]; omega)])
          have b3 : ((l.length : Int) == 60) = false := by simp; omega
          clear hf hati hfull
          go_wp2_with (go_at_call 93; refine (treeOwn_ok _ P Q p pc pd (Hp1.out.bbelow Hb4.out) (Hp2.out.bbelow Hb4.out) Hpb.out.1 Hpb.out.2).mono ?_; rintro e w5 ⟨A5, c5, B5, d5, rfl, gs1, gs2, hb5⟩; have hz5 := hb5.size)
          have hown5 := (Hown4.out.below pairR_stays hb5).below pairR_stays ((Below.refl w5.heap.size w5).alloc (Nat.le_refl _) (.cells #[.slice A5 p.1.length c5, .slice B5 p.2.length d5] 50))
          have hap5 : ∀ b, From w4.heap.size b → (Value.slice A2 l.length c2).ownBlock ≠ some b := Hown4.out.apart _ (Nat.le_refl _)
          refine (sinsert_ok pairR_stays pairR_one _ w1.heap.size (.slice A2 l.length c2) l i p w5.heap.size [.slice A5 p.1.length c5, .slice B5 p.2.length d5] 50 hown5 hil (by simp; omega) (by omega) (box_new w5 _ _) (hap5 _ (by simp only [From]; omega)) rfl ?_).mono ?_
          · exact pair_fresh (n := w4.heap.size) gs1 gs2 Hpb.out.1 Hpb.out.2 ((Same.refl _ _).alloc _) (by omega) hap5
          · rintro e w6 ⟨v6, rfl, hown6, hb6⟩
            obtain ⟨A6, c6, rfl, hc6, hs6⟩ := hown6.readc pairR_stays
            have Hs6 := Lib.hid hs6
            clear hs6 hown6 hown5
            go_wp2
            go_ret2
            rw [Hv.out]
            exact ⟨A6, c6, rfl, hc6, Hs6.out.lo pairR_stays (by omega), ((Hb4.out.next hb5 (by omega)).alloc (by omega) _).trans (hb6.mono (by omega))⟩
    · have b2 : (pairFaultS p != 0) = true := by simpa using h2
      have Hv := Lib.hid (show putS l p = ([], pairFaultS p) by simp [putS, ppFault, H1.out, h2])
      clear h2
      go_enter Tryz.func76, Tryz.ntmps76
      go_wp2_with (first
        | (go_at_call 46; refine (treeCheck_ok _ A l c (Ha.out.below pairR_stays ?_)).mono ?_; (repeat' (first | exact Below.refl _ _ | assumption | refine Below.drew ?_ | refine below_drewN ?_ _ | refine Below.alloc ?_ (by first | exact Nat.le_refl _ | omega | (simp; done) | (simp; omega)) _)); rintro e w2 ⟨rfl, hb2⟩; have hg0 : w2.cell? ⟨w.heap.size, 0, none⟩ = some (.slice P p.1.length pc) := (hb2.cell (by first | (simp; done) | omega | (simp; omega))).trans (by simp); have hg1 : w2.cell? ⟨w.heap.size, 1, none⟩ = some (.slice Q p.2.length pd) := (hb2.cell (by first | (simp; done) | omega | (simp; omega))).trans (by simp))
        | (go_at_call 66; refine (treePair_ok _ P Q p pc pd).mono ?_; rintro e w1 ⟨rfl, hb1⟩))
      go_ret2
      rw [Hv.out]
      exact ⟨none, 0, rfl, Nat.le_refl _, SL.nil, (((Below.refl w.heap.size w).alloc (Nat.le_refl _) _).next hb2 (by first | (simp; done) | omega | (simp; omega))).next hb1 (by have hz := hb2.size; simp at hz; omega)⟩
  · have b2 : (pairsFaultS l != 0) = true := by simpa using h1
    have Hv := Lib.hid (show putS l p = ([], pairsFaultS l) by simp [putS, ppFault, h1])
    clear h1
    go_enter Tryz.func76, Tryz.ntmps76
    go_wp2_with (go_at_call 46; refine (treeCheck_ok _ A l c (Ha.out.below pairR_stays ?_)).mono ?_; (repeat' (first | exact Below.refl _ _ | assumption | refine Below.drew ?_ | refine below_drewN ?_ _ | refine Below.alloc ?_ (by first | exact Nat.le_refl _ | omega | (simp; done) | (simp; omega)) _)); rintro e w2 ⟨rfl, hb2⟩)
    go_ret2
    rw [Hv.out]
    exact ⟨none, 0, rfl, Nat.le_refl _, SL.nil, ((Below.refl w.heap.size w).alloc (Nat.le_refl _) _).next hb2 (by first | (simp; done) | omega | (simp; omega))⟩
theorem putS_len (l : List Pr) (p : Pr) : (putS l p).1.length ≤ 2 * l.length + 1 := by
  unfold putS
  split
  · simp
  · split
    · simp
    · exact putAll_len p l
end Go.Proofs.YthohkgggodhbcaaGreat
