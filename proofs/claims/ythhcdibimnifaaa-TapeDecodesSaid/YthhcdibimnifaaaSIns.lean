/- slices.Insert of one pair among pairs of the call's own: three roads. -/
import Derived.Test.YthhcdibimnifaaaPairs
import Derived.Test.YthhcdibimnifaaaPutS
import Derived.Test.YthhcdibimnifaaaChunk
import Derived.Shelf.Spec.SlicesInsert
import Derived.Lib.Overlaps
import Derived.Lib.AppendZerosOnto
namespace Go.Proofs.Ythhcdibimnifaaa
open Go.RowKit
set_option linter.unusedVariables false
set_option linter.unusedSimpArgs false

theorem run_copy_chunks {P : Program} (w : World) (dT sT ty elem : TypeId) (size n : Nat) (b o dLen dCap : Nat) (a : Addr) (sLen sCap : Nat) (cs : List Value)
    (hu : P.underlying dT = some (.slice elem)) (hs : (P.info? elem).map (·.size) = some size) (hn : n = Nat.min sLen dLen) (hl : cs.length = n * size)
    (hsrc : ∀ j v, cs[j]? = some v → w.cell? (a.add j) = some v) (hc : ∀ j, j < cs.length → (w.cell? ⟨b, o + j, none⟩).isSome = true) (hf : ∀ j, j < cs.length → w.frozen? ⟨b, o + j, none⟩ = false) (h1 : ∀ v ∈ cs, v.oneCell' = true) :
    (Builtin.copy_ #[dT, sT] ty #[.slice (some ⟨b, o, none⟩) dLen dCap, .slice (some a) sLen sCap]).run P w = .ok (goInt n) (w.setCells b o cs) := by
  have hst := run_storeCells_cells (P := P) b o cs 0 w (by simpa using hc) (by simpa using hf) h1
  have hfc := run_firstCells_some (P := P) w size n a sLen sCap cs hl hsrc
  cases hq : P.info? elem with
  | none => simp [hq] at hs
  | some i =>
    have hi : i.size = size := by simpa [hq] using hs
    simp [Builtin.copy_, run_underlying hu, Builtin.lenOf, sizeOf, typeInfo, hq, hi, ← hn, hfc, hst]
theorem each_one {α : Type} {R : (Nat → Prop) → World → List Value → α → Prop} {S : Nat → Prop} {w : World} (hone : ∀ S w c x, R S w c x → ∀ u ∈ c, u.oneCell' = true) : ∀ {css : List (List Value)} {l : List α}, Each (R S w) css l → ∀ u ∈ css.flatten, u.oneCell' = true
  | [], [], _, u, hu => by simp at hu
  | c :: cs, x :: xs, h, u, hu => by
    rw [List.flatten_cons] at hu
    rcases List.mem_append.1 hu with h1 | h1
    · exact hone _ _ _ _ h.1 u h1
    · exact each_one hone h.2 u h1
  | [], _ :: _, h, _, _ => h.elim
  | _ :: _, [], h, _, _ => h.elim
theorem pairR_one : ∀ S w c x, PairR S w c x → ∀ u ∈ c, u.oneCell' = true := by
  rintro S w c x ⟨A, c1, B, d, rfl, _⟩ u hu
  simp only [List.mem_cons, List.not_mem_nil, or_false] at hu
  rcases hu with e | e <;> rw [e] <;> rfl
theorem shape_of_heap {w : World} {g : Nat} {t : TypeId} {cs : Array Value} (h : w.heap[g]? = some (.cells cs t (0, 0))) : w.shape? g = some (t, cs.size) := by
  simp [World.shape?, h]
theorem info_size {P : Program} {e : TypeId} {i0 : TypeInfo} {size : Nat} (hi : P.info? e = some i0) (hz : i0.size = size) : (P.info? e).map (·.size) = some size := by
  rw [hi]; simp [hz]
theorem sizeOf_run {P : Program} {e : TypeId} {i0 : TypeInfo} {size : Nat} (hi : P.info? e = some i0) (hz : i0.size = size) (w : World) : (Go.sizeOf e).run P w = .ok size w := by
  simp [Go.sizeOf, typeInfo, hi, hz]
theorem ins_cells {cur c : List Value} {css : List (List Value)} {n i : Nat} (hw : Wide 2 css) (hcl : css.length = n) (ht : cur.take (n * 2) = css.flatten) (hi : i ≤ n) (hc : c.length = 2) (hcur : (n + 1) * 2 ≤ cur.length) (news : List Value) (hnews : news = (css.drop i).flatten) :
    ((cur.take ((i + 1) * 2) ++ news ++ cur.drop ((i + 1) * 2 + news.length)).take (i * 2) ++ c ++ (cur.take ((i + 1) * 2) ++ news ++ cur.drop ((i + 1) * 2 + news.length)).drop (i * 2 + c.length)).take ((n + 1) * 2) = (css.take i ++ c :: css.drop i).flatten := by
  have hdl : news.length = (n - i) * 2 := by rw [hnews, flat_len (hw.drop i), List.length_drop, hcl]
  have e1 : (cur.take ((i + 1) * 2) ++ news ++ cur.drop ((i + 1) * 2 + news.length)).take (i * 2) = (css.take i).flatten := by
    rw [List.append_assoc, List.take_append_of_le_length (by rw [List.length_take]; omega), List.take_take, Nat.min_eq_left (by omega), ← flat_take hw i (by omega), ← ht, List.take_take, Nat.min_eq_left (by omega)]
  have e2 : (cur.take ((i + 1) * 2) ++ news ++ cur.drop ((i + 1) * 2 + news.length)).drop (i * 2 + c.length) = news ++ cur.drop ((i + 1) * 2 + news.length) := by
    rw [List.append_assoc, hc, show i * 2 + 2 = (cur.take ((i + 1) * 2)).length by rw [List.length_take]; omega, List.drop_left]
  have hl1 : (css.take i).flatten.length = i * 2 := by rw [flat_len (hw.take i), List.length_take]; omega
  have e3 : (css.take i ++ c :: css.drop i).flatten = (css.take i).flatten ++ c ++ news := by rw [List.flatten_append, List.flatten_cons, hnews, List.append_assoc]
  rw [e1, e2, e3, ← List.append_assoc]
  have hl2 : ((css.take i).flatten ++ c ++ news).length = (n + 1) * 2 := by rw [List.length_append, List.length_append, hl1, hc, hdl]; omega
  rw [← hl2, List.take_left]
theorem size_row (cur vs : List Value) (o k : Nat) (hk : k = o + vs.length) (h : k ≤ cur.length) : (cur.take o ++ vs ++ cur.drop k).toArray.size = cur.length := by
  simp only [List.size_toArray, List.length_append, List.length_take, List.length_drop]
  omega
theorem wide_ins {css : List (List Value)} {c : List Value} (hw : Wide 2 css) (hc : c.length = 2) (i : Nat) : Wide 2 (css.take i ++ c :: css.drop i) := by
  intro c' hc'
  rcases List.mem_append.1 hc' with h | h
  · exact hw _ (List.mem_of_mem_take h)
  · rcases List.mem_cons.1 h with rfl | h
    · exact hc
    · exact hw _ (List.mem_of_mem_drop h)
theorem each_ins {α : Type} {R : List Value → α → Prop} {css : List (List Value)} {l : List α} {c : List Value} {x : α} (h : Each R css l) (hx : R c x) (i : Nat) : Each R (css.take i ++ c :: css.drop i) (ins l i x) :=
  Each.append (cs' := c :: css.drop i) (l' := x :: l.drop i) ⟨hx, h.drop i⟩ (h.take i)
/-- What slices.Insert answers. -/
def RetIns {α : Type} (R : (Nat → Prop) → World → List Value → α → Prop) (E : TypeId) (base : Nat) (w : World) (l : List α) (e : Ending) (w' : World) : Prop :=
  ∃ v', e = .returned v' ∧ Own 2 R (From base) w' base E v' l ∧ Below base w w'
/-! ### behind all -/
set_option maxRecDepth 100000 in
set_option maxHeartbeats 1000000 in
theorem sinsert_end {α : Type} {R : (Nat → Prop) → World → List Value → α → Prop} (hR : Stays R) (hone : ∀ S w c x, R S w c x → ∀ u ∈ c, u.oneCell' = true) (w : World) (base : Nat) (v : Value) (l : List α) (x : α) (vb : Nat) (c : List Value) (T : TypeId)
    (hown : Own 2 R (From base) w base 39 v l) (hb : base ≤ w.heap.size) (hl : l.length ≤ 100000) (hvb : w.heap[vb]? = some (.cells c.toArray T (0, 0))) (hc : c.length = 2) (hx : R (fun b => From base b ∧ v.ownBlock ≠ some b) w c x) :
    Calls Try.prog 99 #[v, .int .i64 l.length, .slice (some ⟨vb, 0, none⟩) 1 1] w (RetIns R 39 base w (l ++ [x])) := by
  obtain ⟨i0, hi0, hz0, hz1, hz2⟩ := info_parts info_pair
  obtain ⟨A, cap, hv, hcap⟩ : ∃ A cap, v = .slice A l.length cap ∧ (A = none → cap = 0) := by
    obtain ⟨xs, h1, _⟩ := hown
    rcases h1.2 with ⟨rfl, h0⟩ | ⟨g, cap, cur, rfl, _⟩
    · exact ⟨none, 0, by rw [h0], fun _ => rfl⟩
    · exact ⟨_, cap, rfl, fun h => by cases h⟩
  have Hown := Lib.hid hown
  have Hx := Lib.hid hx
  have Hsrc := Lib.hid (show ∃ ad, some (⟨vb, 0, none⟩ : Addr) = some ad ∧ ∀ j u, c[j]? = some u → w.cell? (ad.add j) = some u from ⟨_, rfl, fun j u hu => by rw [add_at, Nat.zero_add, box_cell hvb, hu]⟩)
  have Hone := Lib.hid (hone _ _ _ _ hx)
  have Hv := Lib.hid hv
  have Hcap := Lib.hid hcap
  clear hown hx hvb hone
  have hsame : v = v := rfl
  rw [hv]
  clear hv hcap
  rcases A with _ | ⟨g, off, sp⟩
  all_goals
    go_enter Try.func99, Try.ntmps99
    go_wp2_with (at_builtin; refine wpl_snoc hR (S := From base) _ rfl _ _ _ rfl base 39 i0 _ 2 48 Try.underlying22 hi0 hz0 hz1 hz2 rfl (by decide) v l ?hs Hown.out (some ⟨vb, 0, none⟩) 1 c rfl hc Hsrc.out Hone.out (by unfold maxLen; omega) (by omega) hb x Hx.out ?_; (case hs => (rw [Hv.out]; rfl)); intro v1 w1 hown1 hbw1)
    all_goals
      go_ret
      exact ⟨v1, rfl, hown1, hbw1⟩
/-! ### there is room -/
set_option maxRecDepth 100000 in
set_option maxHeartbeats 2000000 in
theorem sinsert_room {α : Type} {R : (Nat → Prop) → World → List Value → α → Prop} (hR : Stays R) (hone : ∀ S w c x, R S w c x → ∀ u ∈ c, u.oneCell' = true) (w : World) (base : Nat) (l : List α) (i : Nat) (x : α) (g cap : Nat) (vb : Nat) (c : List Value) (T : TypeId)
    (hown : Own 2 R (From base) w base 39 (.slice (some ⟨g, 0, none⟩) l.length cap) l) (hi : i < l.length) (hroom : l.length < cap) (hvb : w.heap[vb]? = some (.cells c.toArray T (0, 0))) (hc : c.length = 2) (hne : vb ≠ g) (hx : R (fun b => From base b ∧ b ≠ g) w c x) :
    Calls Try.prog 99 #[.slice (some ⟨g, 0, none⟩) l.length cap, .int .i64 i, .slice (some ⟨vb, 0, none⟩) 1 1] w (RetIns R 39 base w (ins l i x)) := by
  obtain ⟨i0, hi0, hz0, hz1, hz2⟩ := info_parts info_pair
  obtain ⟨g', cap', cur, css, hv, hg, hlt, hh, hcap, hmx, hcur, ht, hw, he⟩ := hown.row hR (by omega)
  cases hv
  obtain ⟨n, hn⟩ : ∃ n, n = l.length := ⟨_, rfl⟩
  have hcl : css.length = n := by rw [hn]; exact he.length
  rw [← hn] at hi hroom hcap ht ⊢
  simp only [maxLen] at hmx
  have hcell : ∀ j, j < cap * 2 → (w.cell? ⟨g, j, none⟩).isSome = true := by
    intro j hj
    simp [World.cell?, hh, hcur, hj]
  have hcells : ∀ j, j < n * 2 → w.cell? ⟨g, j, none⟩ = css.flatten[j]? := by
    intro j hj
    rw [← ht, List.getElem?_take_of_lt hj, Array.getElem?_toList]
    simp [World.cell?, hh]
  have hfroz : ∀ j, w.frozen? ⟨g, j, none⟩ = false := fun j => by simp [World.frozen?, hh]
  have hov : ∀ lb cb, (callFunc 151 #[.slice (some ⟨vb, 0, none⟩) 1 1, .slice (some ⟨g, (i + 1) * 2, none⟩) lb cb]).run Try.prog w = .ok (.value (.bool false)) w := fun lb cb => by
    rw [run_callFunc_extern Try.func151 (by kernel_rfl) (by kernel_rfl) (by kernel_rfl) (e := Extern.SlicesOverlaps.overlaps #[22, 22] #[4]) (by kernel_rfl),
      Lib.run_overlaps_apart w 22 4 39 Try.underlying22 2 (sizeOf_run hi0 hz1) ⟨vb, 0, none⟩ ⟨g, (i + 1) * 2, none⟩ 1 1 lb cb hne T 39 _ _ (shape_of_heap hvb) (shape_of_heap hh) (by omega) (by simp [World.frozen?, hvb]) (by simp [World.frozen?, hvb])]
    rfl
  have hdf : css.flatten.drop (i * 2) = (css.drop i).flatten := flat_drop hw i (by omega)
  have hdl : (css.drop i).flatten.length = (n - i) * 2 := by rw [flat_len (hw.drop i), List.length_drop, hcl]
  obtain ⟨news, hnews⟩ : ∃ news, news = (css.drop i).flatten := ⟨_, rfl⟩
  rw [← hnews] at hdf hdl
  have hn1 : ∀ v ∈ news, v.oneCell' = true := by rw [hnews]; exact each_one hone (he.drop i)
  have hc1 : ∀ v ∈ c, v.oneCell' = true := hone _ _ _ _ hx
  have hsz : (Try.prog.info? 39).map (·.size) = some 2 := info_size hi0 hz1
  have hcp1 : ∀ ty dc sc, (Builtin.copy_ #[22, 22] ty #[.slice (some ⟨g, (i + 1) * 2, none⟩) (n - i) dc, .slice (some ⟨g, i * 2, none⟩) (n + 1 - i) sc]).run Try.prog w.drew = .ok (goInt ((n - i : Nat) : Int)) (w.drew.setCells g ((i + 1) * 2) news) := fun ty dc sc =>
    run_copy_chunks w.drew _ _ ty 39 2 (n - i) g ((i + 1) * 2) (n - i) dc ⟨g, i * 2, none⟩ (n + 1 - i) sc news Try.underlying22 hsz (by simp only [Nat.min_def]; split <;> omega) hdl
      (fun j v hj => by
        rw [add_at]
        have hjl := (List.getElem?_eq_some_iff.1 hj).1
        have := hcells (i * 2 + j) (by omega)
        show w.cell? _ = _
        rw [this, ← hj, ← hdf, List.getElem?_drop])
      (fun j hj => hcell _ (by omega)) (fun j hj => hfroz _) hn1
  obtain ⟨W1, hW1⟩ : ∃ W1, W1 = w.drew.setCells g ((i + 1) * 2) news := ⟨_, rfl⟩
  have hcp2 : ∀ ty dc, (Builtin.copy_ #[22, 22] ty #[.slice (some ⟨g, i * 2, none⟩) (n + 1 - i) dc, .slice (some ⟨vb, 0, none⟩) 1 1]).run Try.prog W1 = .ok (goInt ((1 : Nat) : Int)) (W1.setCells g (i * 2) c) := fun ty dc =>
    run_copy_chunks W1 _ _ ty 39 2 1 g (i * 2) (n + 1 - i) dc ⟨vb, 0, none⟩ 1 1 c Try.underlying22 hsz (by simp only [Nat.min_def]; split <;> omega) (by rw [hc])
      (fun j v hj => by
        rw [add_at, hW1, World.cell?_setCells_out g _ _ _ _ (fun h _ => absurd h hne), Nat.zero_add]
        show w.cell? _ = _
        rw [box_cell hvb, hj])
      (fun j hj => by rw [hW1]; exact World.isSome_setCells g news _ _ _ (hcell _ (by omega))) (fun j hj => by rw [hW1, World.frozen?_setCells]; exact hfroz _) hc1
  rw [← hW1] at hcp1
  have Hcp1 := Lib.hid hcp1
  have Hcp2 := Lib.hid hcp2
  have Hown := Lib.hid hown
  have Hrest := Lib.hid (And.intro hh (And.intro hcur (And.intro ht (And.intro hw (And.intro he hx)))))
  have HW1 := Lib.hid hW1
  have Hn := Lib.hid hn
  have Hcl := Lib.hid hcl
  have Hnews := Lib.hid hnews
  have Hdl := Lib.hid hdl
  have Hc := Lib.hid hc
  have Hlt := Lib.hid hlt
  clear hcp1 hcp2 hown hh hcur ht hw he hx hW1 hn hcl hnews hdl hc hcells hcell hfroz hdf hn1 hc1 hsz hvb hlt
  have hz2' : ((i : Int) == (n : Int)) = false := by simp; omega
  have hw0 : IntKind.i64.wrap ((n : Int) + 1) = (n : Int) + 1 := by rw [IntKind.wrap_i64]; omega
  have hw1 : IntKind.i64.wrap ((i : Int) + 1) = (i : Int) + 1 := by rw [IntKind.wrap_i64]; omega
  have hb0 : decide ((cap : Int) < (n : Int) + 1) = false := by simp; omega
  have hb1 : (0 : Int) ≤ (i : Int) + 1 := by omega
  have hb5 : (0 : Int) ≤ (n : Int) + 1 := by omega
  have hb6 : (n : Int) + 1 ≤ (cap : Int) := by omega
  have hin : i ≤ n := by omega
  have htn : ((i : Int) + 1).toNat = i + 1 := by omega
  have htn' : ((n : Int) + 1).toNat = n + 1 := by omega
  have hb2 : ¬ (cap = i + 1) := by omega
  have hb3 : (i : Int) ≤ (n : Int) + 1 := by omega
  have hb7 : (i : Int) + 1 ≤ (n : Int) + 1 := by omega
  have hb4 : ¬ (cap = i) := by omega
  go_enter Try.func99, Try.ntmps99
  go_wp2_with (simp only [hov])
  go_region_law ((refine step_copy_runI rfl (.tmp 73) (.tmp 76) 22 22 rfl (.slice (some ⟨g, (i + 1) * 2, none⟩) (n - i) (cap - (i + 1))) (.slice (some ⟨g, i * 2, none⟩) (n + 1 - i) (cap - i)) ?hd ?hx (Hcp1.out _ _ _) ?_); (case hd => simp [Act.eval, Act.put]); (case hx => simp [Act.eval, Act.put]))
  go_wp2_with (refine wpList_copy_runI _ rfl (.tmp 80) (.tmp 81) 22 22 rfl (.slice (some ⟨g, i * 2, none⟩) (n + 1 - i) (cap - i)) (.slice (some ⟨vb, 0, none⟩) 1 1) ?hd2 ?hx2 (Hcp2.out _ _) ?_; (case hd2 => simp [Act.eval, Act.put]); (case hx2 => simp [Act.eval, Act.put]))
  go_ret
  obtain ⟨hh, hcur, ht, hw, he, hx⟩ := Hrest.out
  have hil : (ins l i x).length = n + 1 := by rw [ins_len, Hn.out]
  have hh1 : W1.heap[g]? = some (.cells (cur.toList.take ((i + 1) * 2) ++ news ++ cur.toList.drop ((i + 1) * 2 + news.length)).toArray 39 (0, 0)) := by
    rw [HW1.out]
    exact heap_setCells_row news ((i + 1) * 2) cur w.drew hh (by rw [Hdl.out]; omega)
  have hl1 : (cur.toList.take ((i + 1) * 2) ++ news ++ cur.toList.drop ((i + 1) * 2 + news.length)).toArray.size = cap * 2 := by
    rw [size_row _ _ _ _ rfl (by rw [Hdl.out, Array.length_toList]; omega), Array.length_toList, hcur]
  have hh2 := heap_setCells_row c (i * 2) _ W1 hh1 (by rw [hl1, Hc.out]; omega)
  have hs : Same (fun b => From base b ∧ b ≠ g) w (W1.setCells g (i * 2) c) := by
    rw [HW1.out]
    exact Same.setCells (by simp) _ _ (Same.setCells (by simp) _ _ (Same.refl _ _).drew)
  have hbw : Below base w (W1.setCells g (i * 2) c) := by
    rw [HW1.out]
    exact below_setCells' hg _ _ (below_setCells' hg _ _ (Below.refl _ _).drew)
  refine ⟨.slice (some ⟨g, 0, none⟩) (n + 1) cap, rfl, ?_, hbw⟩
  rw [← hil]
  refine Own.mk_row (css := css.take i ++ c :: css.drop i) (wide_ins hw Hc.out i) ((each_ins he hx i).mono fun c' x' h' => hR.same _ _ _ _ _ hs h') hg hh2 (by omega) (by unfold maxLen; omega) ?_ ?_ hR
  · have hc2 := Hc.out
    rw [size_row _ _ _ _ rfl (by rw [hc2]; show i * 2 + 2 ≤ Array.size _; rw [hl1]; omega)]
    exact hl1
  · rw [hil]
    exact ins_cells hw Hcl.out ht (by omega) Hc.out (by rw [Array.length_toList, hcur]; omega) news Hnews.out
end Go.Proofs.Ythhcdibimnifaaa
