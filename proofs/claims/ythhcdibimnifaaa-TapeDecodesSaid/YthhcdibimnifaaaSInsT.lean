/- slices.Insert of one tenant among tenants of the call's own: three roads (twin of the text for pairs). -/
import Derived.Test.YthhcdibimnifaaaSInsG
import Derived.Test.YthhcdibimnifaaaTen
namespace Go.Proofs.Ythhcdibimnifaaa
open Go.RowKit
set_option linter.unusedVariables false
set_option linter.unusedSimpArgs false

set_option maxRecDepth 100000 in
set_option maxHeartbeats 1000000 in
theorem sinsertT_end {α : Type} {R : (Nat → Prop) → World → List Value → α → Prop} (hR : Stays R) (hone : ∀ S w c x, R S w c x → ∀ u ∈ c, u.oneCell' = true) (w : World) (base : Nat) (v : Value) (l : List α) (x : α) (vb : Nat) (c : List Value) (T : TypeId)
    (hown : Own 2 R (From base) w base 122 v l) (hb : base ≤ w.heap.size) (hl : l.length ≤ 100000) (hvb : w.heap[vb]? = some (.cells c.toArray T (0, 0))) (hc : c.length = 2) (hx : R (fun b => From base b ∧ v.ownBlock ≠ some b) w c x) :
    Calls Try.prog 156 #[v, .int .i64 l.length, .slice (some ⟨vb, 0, none⟩) 1 1] w (RetIns R 122 base w (l ++ [x])) := by
  obtain ⟨i0, hi0, hz0, hz1, hz2⟩ := info_parts info_ten
  obtain ⟨A, cap, hv, hcap⟩ : ∃ A cap, v = .slice A l.length cap ∧ (A = none → cap = 0) := by
    obtain ⟨xs, h1, _⟩ := hown
    rcases h1.2 with ⟨rfl, h0⟩ | ⟨g, cap, cur, rfl, _⟩
    · exact ⟨none, 0, by rw [h0], fun _ => rfl⟩
    · exact ⟨_, cap, rfl, fun h => by cases h⟩
  have Hown := Lib.hid hown
  have Hx := Lib.hid hx
  have Hsrc := Lib.hid (show ∃ ad, some (⟨vb, 0, none⟩ : Addr) = some ad ∧ ∀ j u, c[j]? = some u → w.cell? (ad.add j) = some u from ⟨_, rfl, fun j u hu => by rw [add_at, Nat.zero_add, box_cell hvb, hu]⟩)
  have Hone := Lib.hid (hone _ _ _ _ hx)
  have Hv := Lib.hid hv
  have Hcap := Lib.hid hcap
  clear hown hx hvb hone
  have hsame : v = v := rfl
  rw [hv]
  clear hv hcap
  rcases A with _ | ⟨g, off, sp⟩
  all_goals
    go_enter Try.func156, Try.ntmps156
    go_wp2_with (at_builtin; refine wpl_snoc hR (S := From base) _ rfl _ _ _ rfl base 122 i0 _ 2 48 Try.underlying43 hi0 hz0 hz1 hz2 rfl (by decide) v l ?hs Hown.out (some ⟨vb, 0, none⟩) 1 c rfl hc Hsrc.out Hone.out (by unfold maxLen; omega) (by omega) hb x Hx.out ?_; (case hs => (rw [Hv.out]; rfl)); intro v1 w1 hown1 hbw1)
    all_goals
      go_ret
      exact ⟨v1, rfl, hown1, hbw1⟩
set_option maxRecDepth 100000 in
set_option maxHeartbeats 2000000 in
theorem sinsertT_room {α : Type} {R : (Nat → Prop) → World → List Value → α → Prop} (hR : Stays R) (hone : ∀ S w c x, R S w c x → ∀ u ∈ c, u.oneCell' = true) (w : World) (base : Nat) (l : List α) (i : Nat) (x : α) (g cap : Nat) (vb : Nat) (c : List Value) (T : TypeId)
    (hown : Own 2 R (From base) w base 122 (.slice (some ⟨g, 0, none⟩) l.length cap) l) (hi : i < l.length) (hroom : l.length < cap) (hvb : w.heap[vb]? = some (.cells c.toArray T (0, 0))) (hc : c.length = 2) (hne : vb ≠ g) (hx : R (fun b => From base b ∧ b ≠ g) w c x) :
    Calls Try.prog 156 #[.slice (some ⟨g, 0, none⟩) l.length cap, .int .i64 i, .slice (some ⟨vb, 0, none⟩) 1 1] w (RetIns R 122 base w (ins l i x)) := by
  obtain ⟨i0, hi0, hz0, hz1, hz2⟩ := info_parts info_ten
  obtain ⟨g', cap', cur, css, hv, hg, hlt, hh, hcap, hmx, hcur, ht, hw, he⟩ := hown.row hR (by omega)
  cases hv
  obtain ⟨n, hn⟩ : ∃ n, n = l.length := ⟨_, rfl⟩
  have hcl : css.length = n := by rw [hn]; exact he.length
  rw [← hn] at hi hroom hcap ht ⊢
  simp only [maxLen] at hmx
  have hcell : ∀ j, j < cap * 2 → (w.cell? ⟨g, j, none⟩).isSome = true := by
    intro j hj
    simp [World.cell?, hh, hcur, hj]
  have hcells : ∀ j, j < n * 2 → w.cell? ⟨g, j, none⟩ = css.flatten[j]? := by
    intro j hj
    rw [← ht, List.getElem?_take_of_lt hj, Array.getElem?_toList]
    simp [World.cell?, hh]
  have hfroz : ∀ j, w.frozen? ⟨g, j, none⟩ = false := fun j => by simp [World.frozen?, hh]
  have hov : ∀ lb cb, (callFunc 163 #[.slice (some ⟨vb, 0, none⟩) 1 1, .slice (some ⟨g, (i + 1) * 2, none⟩) lb cb]).run Try.prog w = .ok (.value (.bool false)) w := fun lb cb => by
    rw [run_callFunc_extern Try.func163 (by kernel_rfl) (by kernel_rfl) (by kernel_rfl) (e := Extern.SlicesOverlaps.overlaps #[43, 43] #[4]) (by kernel_rfl),
      Lib.run_overlaps_apart w 43 4 122 Try.underlying43 2 (sizeOf_run hi0 hz1) ⟨vb, 0, none⟩ ⟨g, (i + 1) * 2, none⟩ 1 1 lb cb hne T 122 _ _ (shape_of_heap hvb) (shape_of_heap hh) (by omega) (by simp [World.frozen?, hvb]) (by simp [World.frozen?, hvb])]
    rfl
  have hdf : css.flatten.drop (i * 2) = (css.drop i).flatten := flat_drop hw i (by omega)
  have hdl : (css.drop i).flatten.length = (n - i) * 2 := by rw [flat_len (hw.drop i), List.length_drop, hcl]
  obtain ⟨news, hnews⟩ : ∃ news, news = (css.drop i).flatten := ⟨_, rfl⟩
  rw [← hnews] at hdf hdl
  have hn1 : ∀ v ∈ news, v.oneCell' = true := by rw [hnews]; exact each_one hone (he.drop i)
  have hc1 : ∀ v ∈ c, v.oneCell' = true := hone _ _ _ _ hx
  have hsz : (Try.prog.info? 122).map (·.size) = some 2 := info_size hi0 hz1
  have hcp1 : ∀ ty dc sc, (Builtin.copy_ #[43, 43] ty #[.slice (some ⟨g, (i + 1) * 2, none⟩) (n - i) dc, .slice (some ⟨g, i * 2, none⟩) (n + 1 - i) sc]).run Try.prog w.drew = .ok (goInt ((n - i : Nat) : Int)) (w.drew.setCells g ((i + 1) * 2) news) := fun ty dc sc =>
    run_copy_chunks w.drew _ _ ty 122 2 (n - i) g ((i + 1) * 2) (n - i) dc ⟨g, i * 2, none⟩ (n + 1 - i) sc news Try.underlying43 hsz (by simp only [Nat.min_def]; split <;> omega) hdl
      (fun j v hj => by
        rw [add_at]
        have hjl := (List.getElem?_eq_some_iff.1 hj).1
        have := hcells (i * 2 + j) (by omega)
        show w.cell? _ = _
        rw [this, ← hj, ← hdf, List.getElem?_drop])
      (fun j hj => hcell _ (by omega)) (fun j hj => hfroz _) hn1
  obtain ⟨W1, hW1⟩ : ∃ W1, W1 = w.drew.setCells g ((i + 1) * 2) news := ⟨_, rfl⟩
  have hcp2 : ∀ ty dc, (Builtin.copy_ #[43, 43] ty #[.slice (some ⟨g, i * 2, none⟩) (n + 1 - i) dc, .slice (some ⟨vb, 0, none⟩) 1 1]).run Try.prog W1 = .ok (goInt ((1 : Nat) : Int)) (W1.setCells g (i * 2) c) := fun ty dc =>
    run_copy_chunks W1 _ _ ty 122 2 1 g (i * 2) (n + 1 - i) dc ⟨vb, 0, none⟩ 1 1 c Try.underlying43 hsz (by simp only [Nat.min_def]; split <;> omega) (by rw [hc])
      (fun j v hj => by
        rw [add_at, hW1, World.cell?_setCells_out g _ _ _ _ (fun h _ => absurd h hne), Nat.zero_add]
        show w.cell? _ = _
        rw [box_cell hvb, hj])
      (fun j hj => by rw [hW1]; exact World.isSome_setCells g news _ _ _ (hcell _ (by omega))) (fun j hj => by rw [hW1, World.frozen?_setCells]; exact hfroz _) hc1
  rw [← hW1] at hcp1
  have Hcp1 := Lib.hid hcp1
  have Hcp2 := Lib.hid hcp2
  have Hown := Lib.hid hown
  have Hrest := Lib.hid (And.intro hh (And.intro hcur (And.intro ht (And.intro hw (And.intro he hx)))))
  have HW1 := Lib.hid hW1
  have Hn := Lib.hid hn
  have Hcl := Lib.hid hcl
  have Hnews := Lib.hid hnews
  have Hdl := Lib.hid hdl
  have Hc := Lib.hid hc
  have Hlt := Lib.hid hlt
  clear hcp1 hcp2 hown hh hcur ht hw he hx hW1 hn hcl hnews hdl hc hcells hcell hfroz hdf hn1 hc1 hsz hvb hlt
  have hz2' : ((i : Int) == (n : Int)) = false := by simp; omega
  have hw0 : IntKind.i64.wrap ((n : Int) + 1) = (n : Int) + 1 := by rw [IntKind.wrap_i64]; omega
  have hw1 : IntKind.i64.wrap ((i : Int) + 1) = (i : Int) + 1 := by rw [IntKind.wrap_i64]; omega
  have hb0 : decide ((cap : Int) < (n : Int) + 1) = false := by simp; omega
  have hb1 : (0 : Int) ≤ (i : Int) + 1 := by omega
  have hb5 : (0 : Int) ≤ (n : Int) + 1 := by omega
  have hb6 : (n : Int) + 1 ≤ (cap : Int) := by omega
  have hin : i ≤ n := by omega
  have htn : ((i : Int) + 1).toNat = i + 1 := by omega
  have htn' : ((n : Int) + 1).toNat = n + 1 := by omega
  have hb2 : ¬ (cap = i + 1) := by omega
  have hb3 : (i : Int) ≤ (n : Int) + 1 := by omega
  have hb7 : (i : Int) + 1 ≤ (n : Int) + 1 := by omega
  have hb4 : ¬ (cap = i) := by omega
  go_enter Try.func156, Try.ntmps156
  go_wp2_with (simp only [hov])
  go_region_law ((refine step_copy_runI rfl (.tmp 73) (.tmp 76) 43 43 rfl (.slice (some ⟨g, (i + 1) * 2, none⟩) (n - i) (cap - (i + 1))) (.slice (some ⟨g, i * 2, none⟩) (n + 1 - i) (cap - i)) ?hd ?hx (Hcp1.out _ _ _) ?_); (case hd => simp [Act.eval, Act.put]); (case hx => simp [Act.eval, Act.put]))
  go_wp2_with (refine wpList_copy_runI _ rfl (.tmp 80) (.tmp 81) 43 43 rfl (.slice (some ⟨g, i * 2, none⟩) (n + 1 - i) (cap - i)) (.slice (some ⟨vb, 0, none⟩) 1 1) ?hd2 ?hx2 (Hcp2.out _ _) ?_; (case hd2 => simp [Act.eval, Act.put]); (case hx2 => simp [Act.eval, Act.put]))
  go_ret
  obtain ⟨hh, hcur, ht, hw, he, hx⟩ := Hrest.out
  have hil : (ins l i x).length = n + 1 := by rw [ins_len, Hn.out]
  have hh1 : W1.heap[g]? = some (.cells (cur.toList.take ((i + 1) * 2) ++ news ++ cur.toList.drop ((i + 1) * 2 + news.length)).toArray 122 (0, 0)) := by
    rw [HW1.out]
    exact heap_setCells_row news ((i + 1) * 2) cur w.drew hh (by rw [Hdl.out]; omega)
  have hl1 : (cur.toList.take ((i + 1) * 2) ++ news ++ cur.toList.drop ((i + 1) * 2 + news.length)).toArray.size = cap * 2 := by
    rw [size_row _ _ _ _ rfl (by rw [Hdl.out, Array.length_toList]; omega), Array.length_toList, hcur]
  have hh2 := heap_setCells_row c (i * 2) _ W1 hh1 (by rw [hl1, Hc.out]; omega)
  have hs : Same (fun b => From base b ∧ b ≠ g) w (W1.setCells g (i * 2) c) := by
    rw [HW1.out]
    exact Same.setCells (by simp) _ _ (Same.setCells (by simp) _ _ (Same.refl _ _).drew)
  have hbw : Below base w (W1.setCells g (i * 2) c) := by
    rw [HW1.out]
    exact below_setCells' hg _ _ (below_setCells' hg _ _ (Below.refl _ _).drew)
  refine ⟨.slice (some ⟨g, 0, none⟩) (n + 1) cap, rfl, ?_, hbw⟩
  rw [← hil]
  refine Own.mk_row (css := css.take i ++ c :: css.drop i) (wide_ins hw Hc.out i) ((each_ins he hx i).mono fun c' x' h' => hR.same _ _ _ _ _ hs h') hg hh2 (by omega) (by unfold maxLen; omega) ?_ ?_ hR
  · have hc2 := Hc.out
    rw [size_row _ _ _ _ rfl (by rw [hc2]; show i * 2 + 2 ≤ Array.size _; rw [hl1]; omega)]
    exact hl1
  · rw [hil]
    exact ins_cells hw Hcl.out ht (by omega) Hc.out (by rw [Array.length_toList, hcur]; omega) news Hnews.out
set_option maxRecDepth 100000 in
set_option maxHeartbeats 2000000 in
theorem sinsertT_grow {α : Type} {R : (Nat → Prop) → World → List Value → α → Prop} (hR : Stays R) (hone : ∀ S w c x, R S w c x → ∀ u ∈ c, u.oneCell' = true) (w : World) (base : Nat) (l : List α) (i : Nat) (x : α) (g cap : Nat) (vb : Nat) (c : List Value) (T : TypeId)
    (hown : Own 2 R (From base) w base 122 (.slice (some ⟨g, 0, none⟩) l.length cap) l) (hb : base ≤ w.heap.size) (hl : l.length ≤ 100000) (hi : i < l.length) (hroom : ¬ l.length < cap) (hvb : w.heap[vb]? = some (.cells c.toArray T (0, 0))) (hc : c.length = 2) (hx : R (fun b => From base b ∧ b ≠ g) w c x) :
    Calls Try.prog 156 #[.slice (some ⟨g, 0, none⟩) l.length cap, .int .i64 i, .slice (some ⟨vb, 0, none⟩) 1 1] w (RetIns R 122 base w (ins l i x)) := by
  obtain ⟨i0, hi0, hz0, hz1, hz2⟩ := info_parts info_ten
  obtain ⟨g', cap', cur, css, hv, hg, hlt, hh, hcap, hmx, hcur, ht, hw, he⟩ := hown.row hR (by omega)
  cases hv
  obtain ⟨n, hn⟩ : ∃ n, n = l.length := ⟨_, rfl⟩
  have hcl : css.length = n := by rw [hn]; exact he.length
  rw [← hn] at hi hroom hcap ht hl ⊢
  obtain rfl : cap = n := by omega
  clear hcap hroom
  have hvlt : vb < w.heap.size := (Array.getElem?_eq_some_iff.1 hvb).1
  have hcells : ∀ j, j < cap * 2 → w.cell? ⟨g, j, none⟩ = css.flatten[j]? := by
    intro j hj
    rw [← ht, List.getElem?_take_of_lt hj, Array.getElem?_toList]
    simp [World.cell?, hh]
  have hfi : css.flatten.take (i * 2) = (css.take i).flatten := flat_take hw i (by omega)
  have hfl : (css.take i).flatten.length = i * 2 := by rw [flat_len (hw.take i), List.length_take]; omega
  have hdf : css.flatten.drop (i * 2) = (css.drop i).flatten := flat_drop hw i (by omega)
  have hdl : (css.drop i).flatten.length = (cap - i) * 2 := by rw [flat_len (hw.drop i), List.length_drop, hcl]
  obtain ⟨news, hnews⟩ : ∃ news, news = (css.drop i).flatten := ⟨_, rfl⟩
  rw [← hnews] at hdf hdl
  have hn1 : ∀ v ∈ news, v.oneCell' = true := by rw [hnews]; exact each_one hone (he.drop i)
  have hc1 : ∀ v ∈ c, v.oneCell' = true := hone _ _ _ _ hx
  have hsz : (Try.prog.info? 122).map (·.size) = some 2 := info_size hi0 hz1
  have hold : (Builtin.firstCells i0.size i (.slice (some ⟨g, 0, none⟩) i cap)).run Try.prog w.drew = .ok (css.take i).flatten.toArray w.drew := by
    rw [hz1]
    exact run_firstCells_some w.drew 2 i ⟨g, 0, none⟩ i cap _ hfl (fun j v hj => by
      rw [add_at, Nat.zero_add]
      have hjl := (List.getElem?_eq_some_iff.1 hj).1
      show w.cell? _ = _
      rw [hcells j (by omega), ← hj, ← hfi, List.getElem?_take_of_lt (by omega)])
  have hkk : (cap : Int) + 1 - (i : Int) = ((cap + 1 - i : Nat) : Int) := by omega
  have hik : i + (cap + 1 - i) = cap + 1 := by omega
  obtain ⟨G, hG⟩ : ∃ G, G = grownCap w (cap + 1) cap 122 := ⟨_, rfl⟩
  have hGn : cap + 1 ≤ G := by rw [hG]; exact grownCap_ge w _ _ _
  have hG63 : G ≤ maxLen := by
    have := grownCap_le_maxLen w (cap + 1) cap 122 (by unfold maxLen; omega)
    rwa [← hG] at this
  obtain ⟨ROW, hROW⟩ : ∃ ROW : Array Value, ROW = (css.take i).flatten.toArray ++ Builtin.zeroCells (Value.agg #[.slice none 0 0, .slice none 0 0]).cells (cap + 1 - i) ++ Builtin.zeroCells (Value.agg #[.slice none 0 0, .slice none 0 0]).cells (G - (cap + 1)) := ⟨_, rfl⟩
  have hrz : ∀ ty, (Builtin.append_ #[43, 3] ty #[.slice (some ⟨g, 0, none⟩) i cap, .int .i64 ((cap : Int) + 1 - (i : Int))]).run Try.prog w = .ok (.slice (some ⟨w.heap.size, 0, none⟩) (cap + 1) G) (w.drew.alloc (.cells ROW 122)) := fun ty => by
    have h := Lib.run_append_grow_zeros (P := Try.prog) w 43 3 ty 122 i0 _ .i64 .i64 Try.underlying43 Try.underlying3 hi0 hz0 (some ⟨g, 0, none⟩) i cap _ hold (cap + 1 - i) (by omega) (by omega) (by omega) (by omega) (by rw [hz2]; omega) (by rw [hz2, hik]; exact growslice_fits (by omega) (by omega))
    rw [hik, ← hG, ← hROW] at h
    rw [hkk]
    exact h
  have hRl : ROW.size = G * 2 := by
    rw [hROW]
    simp only [Array.size_append, List.size_toArray, hfl, size_zeroCells, Value.cells]
    simp
    omega
  have hRt : ROW.toList.take (i * 2) = (css.take i).flatten := by
    rw [hROW, Array.toList_append, Array.toList_append, List.append_assoc]
    show (((css.take i).flatten) ++ _).take (i * 2) = _
    rw [← hfl, List.take_left]
  clear hROW
  obtain ⟨W1, hW1⟩ : ∃ W1, W1 = w.drew.alloc (.cells ROW 122) := ⟨_, rfl⟩
  rw [← hW1] at hrz
  have hrow : W1.heap[w.heap.size]? = some (.cells ROW 122 (0, 0)) := by rw [hW1]; exact heap_alloc_new w.drew _
  have hN : ∀ j, j < G * 2 → (W1.cell? ⟨w.heap.size, j, none⟩).isSome = true := fun j hj => by
    simp [World.cell?, hrow, hRl, hj]
  have hNf : ∀ j, W1.frozen? ⟨w.heap.size, j, none⟩ = false := fun j => by simp [World.frozen?, hrow]
  have hOb : ∀ b j, b < w.heap.size → W1.cell? ⟨b, j, none⟩ = w.cell? ⟨b, j, none⟩ := fun b j h => by rw [hW1, World.cell?_alloc_past (w := w.drew) _ b j h]; rfl
  have hcpA : ∀ (W : World), (∀ x, W.cell? x = W1.cell? x) → (∀ x, W.frozen? x = W1.frozen? x) → ∀ ty dc, (Builtin.copy_ #[43, 43] ty #[.slice (some ⟨w.heap.size, i * 2, none⟩) (cap + 1 - i) dc, .slice (some ⟨vb, 0, none⟩) 1 1]).run Try.prog W = .ok (goInt ((1 : Nat) : Int)) (W.setCells w.heap.size (i * 2) c) := fun W hWc hWf ty dc =>
    run_copy_chunks W _ _ ty 122 2 1 w.heap.size (i * 2) (cap + 1 - i) dc ⟨vb, 0, none⟩ 1 1 c Try.underlying43 hsz (by simp only [Nat.min_def]; split <;> omega) (by rw [hc])
      (fun j v hj => by rw [add_at, hWc, Nat.zero_add, hOb _ _ hvlt, box_cell hvb, hj])
      (fun j hj => by rw [hWc]; exact hN _ (by omega)) (fun j hj => by rw [hWf]; exact hNf _) hc1
  have hcpB : ∀ (W : World), (∀ x, W.cell? x = (W1.setCells w.heap.size (i * 2) c).cell? x) → (∀ x, W.frozen? x = (W1.setCells w.heap.size (i * 2) c).frozen? x) → ∀ ty dc sc, (Builtin.copy_ #[43, 43] ty #[.slice (some ⟨w.heap.size, (i + 1) * 2, none⟩) (cap - i) dc, .slice (some ⟨g, i * 2, none⟩) (cap - i) sc]).run Try.prog W = .ok (goInt ((cap - i : Nat) : Int)) (W.setCells w.heap.size ((i + 1) * 2) news) := fun W hWc hWf ty dc sc =>
    run_copy_chunks W _ _ ty 122 2 (cap - i) w.heap.size ((i + 1) * 2) (cap - i) dc ⟨g, i * 2, none⟩ (cap - i) sc news Try.underlying43 hsz (by simp only [Nat.min_def]; split <;> omega) hdl
      (fun j v hj => by
        rw [add_at, hWc, World.cell?_setCells_out _ _ _ _ _ (fun h _ => absurd h (by show ¬ (g = w.heap.size); omega)), hOb _ _ hlt]
        have hjl := (List.getElem?_eq_some_iff.1 hj).1
        rw [hcells (i * 2 + j) (by omega), ← hj, ← hdf, List.getElem?_drop])
      (fun j hj => by rw [hWc]; exact World.isSome_setCells _ _ _ _ _ (hN _ (by omega)))
      (fun j hj => by rw [hWf, World.frozen?_setCells]; exact hNf _) hn1
  have hE : Same (fun b => From base b ∧ b ≠ w.heap.size) w W1 := by rw [hW1]; exact ((Same.refl _ _).drew).alloc _
  have hB : Below base w W1 := by rw [hW1]; exact ((Below.refl _ _).drew).alloc hb _
  have hE1 : ∀ x, ((w.alloc (.cells ROW 122)).drew).cell? x = W1.cell? x := fun x => by rw [hW1]; rfl
  have hE2 : ∀ x, ((w.alloc (.cells ROW 122)).drew).frozen? x = W1.frozen? x := fun x => by rw [hW1]; rfl
  have hWW : W1 = (w.alloc (.cells ROW 122)).drew := by rw [hW1]; rfl
  have HrzA := Lib.hid hrz
  have HcpA := Lib.hid hcpA
  have HcpB := Lib.hid hcpB
  have Hrest := Lib.hid (And.intro hh (And.intro hrow (And.intro hRl (And.intro hRt (And.intro hw (And.intro he (And.intro hx (And.intro hE hB))))))))
  have Hn := Lib.hid hn
  have Hcl := Lib.hid hcl
  have Hnews := Lib.hid hnews
  have Hdl := Lib.hid hdl
  have Hc := Lib.hid hc
  have HE1 := Lib.hid hE1
  have HE2 := Lib.hid hE2
  have HWW := Lib.hid hWW
  have HWd := Lib.hid hW1
  have hG63' : G ≤ 9223372036854775807 := by simp only [maxLen] at hG63; omega
  have HG63 := Lib.hid hG63
  clear hrz hcpA hcpB hown hh hcur ht hw he hx hW1 hn hcl hnews hdl hc hcells hdf hn1 hc1 hsz hvb hrow hRl hRt hN hNf hOb hE hB hE1 hE2 hWW hold hkk hik hfi hfl hlt hG hG63
  have hz2' : ((i : Int) == (cap : Int)) = false := by simp; omega
  have hw0 : IntKind.i64.wrap ((cap : Int) + 1) = (cap : Int) + 1 := by rw [IntKind.wrap_i64]; omega
  have hw1 : IntKind.i64.wrap ((i : Int) + 1) = (i : Int) + 1 := by rw [IntKind.wrap_i64]; omega
  have hw2 : IntKind.i64.wrap ((cap : Int) + 1 - (i : Int)) = (cap : Int) + 1 - (i : Int) := by rw [IntKind.wrap_i64]; omega
  have hb0 : decide ((cap : Int) < (cap : Int) + 1) = true := by simp; omega
  have hb1 : (0 : Int) ≤ (i : Int) + 1 := by omega
  have hin : i ≤ cap := by omega
  have htn : ((i : Int) + 1).toNat = i + 1 := by omega
  have hGi : ¬ (G = i) := by omega
  have hGim : ¬ (G = i + 1) := by omega
  have hci : ¬ (cap = i) := by omega
  have hb3 : (i : Int) ≤ (cap : Int) := by omega
  have hb7 : (i : Int) + 1 ≤ (cap : Int) + 1 := by omega
  go_enter Try.func156, Try.ntmps156
  go_wp2_with (first
    | (at_builtin; refine Lib.wpList_append_run _ rfl (.tmp 34) (.tmp 39) _ _ rfl _ _ rfl rfl _ _ (HrzA.out _) ?_)
    | (refine wpList_copy_runI _ rfl (.tmp 43) (.tmp 44) 43 43 rfl (.slice (some ⟨w.heap.size, i * 2, none⟩) (cap + 1 - i) (G - i)) (.slice (some ⟨vb, 0, none⟩) 1 1) ?hd1 ?hx1 (HcpA.out _ (fun _ => rfl) (fun _ => rfl) _ _) ?_; (case hd1 => simp [Act.eval, Act.put]); (case hx1 => simp [Act.eval, Act.put])))
  go_region_law ((refine step_copy_runI rfl (.tmp 50) (.tmp 53) 43 43 rfl (.slice (some ⟨w.heap.size, (i + 1) * 2, none⟩) (cap - i) (G - (i + 1))) (.slice (some ⟨g, i * 2, none⟩) (cap - i) (cap - i)) ?hd2 ?hx2 (HcpB.out (W1.setCells w.heap.size (i * 2) c).drew (fun _ => rfl) (fun _ => rfl) _ _ _) ?_); (case hd2 => simp [Act.eval, Act.put]); (case hx2 => simp [Act.eval, Act.put]))
  go_wp2
  go_ret
  obtain ⟨hh, hrow, hRl, hRt, hw, he, hx, hE, hB⟩ := Hrest.out
  have hil : (ins l i x).length = cap + 1 := by rw [ins_len, Hn.out]
  have hc2 := Hc.out
  have hh1 := heap_setCells_row c (i * 2) ROW W1 hrow (by rw [hRl, hc2]; omega)
  have hl1 : (ROW.toList.take (i * 2) ++ c ++ ROW.toList.drop (i * 2 + c.length)).toArray.size = G * 2 := by
    rw [size_row _ _ _ _ rfl (by rw [hc2]; show i * 2 + 2 ≤ ROW.size; rw [hRl]; omega)]
    exact hRl
  have hh2 := heap_setCells_row news ((i + 1) * 2) _ (W1.setCells w.heap.size (i * 2) c).drew hh1 (by rw [hl1, Hdl.out]; omega)
  have hs : Same (fun b => From base b ∧ b ≠ w.heap.size) w ((W1.setCells w.heap.size (i * 2) c).drew.setCells w.heap.size ((i + 1) * 2) news) :=
    Same.setCells (by simp) _ _ (Same.setCells (by simp) _ _ hE).drew
  have hbw : Below base w ((W1.setCells w.heap.size (i * 2) c).drew.setCells w.heap.size ((i + 1) * 2) news) :=
    below_setCells' hb _ _ (below_setCells' hb _ _ hB).drew
  have hrow' : ∀ c' x', R (fun b => From base b ∧ b ≠ g) w c' x' → R (fun b => From base b ∧ b ≠ w.heap.size) ((W1.setCells w.heap.size (i * 2) c).drew.setCells w.heap.size ((i + 1) * 2) news) c' x' := fun c' x' h' =>
    hR.same _ _ _ _ _ hs (hR.less _ _ _ _ _ (fun b hlt hs => ⟨hs.1, by omega⟩) h')
  refine ⟨.slice (some ⟨w.heap.size, 0, none⟩) (cap + 1) G, rfl, ?_, hbw⟩
  rw [← hil]
  refine Own.mk_row (css := css.take i ++ c :: css.drop i) (wide_ins hw hc2 i) ((each_ins he hx i).mono hrow') hb hh2 (by omega) HG63.out ?_ ?_ hR
  · rw [size_row _ _ _ _ rfl (by rw [Hdl.out]; show (i + 1) * 2 + (cap - i) * 2 ≤ Array.size _; rw [hl1]; omega)]
    exact hl1
  · rw [hil]
    exact grow_cells hw Hcl.out hRt (by omega) hc2 (by rw [Array.length_toList, hRl]; omega) news Hnews.out
/-- All roads. -/
theorem sinsertT_ok {α : Type} {R : (Nat → Prop) → World → List Value → α → Prop} (hR : Stays R) (hone : ∀ S w c x, R S w c x → ∀ u ∈ c, u.oneCell' = true) (w : World) (base : Nat) (v : Value) (l : List α) (i : Nat) (x : α) (vb : Nat) (c : List Value) (T : TypeId)
    (hown : Own 2 R (From base) w base 122 v l) (hi : i ≤ l.length) (hb : base ≤ w.heap.size) (hl : l.length ≤ 100000) (hvb : w.heap[vb]? = some (.cells c.toArray T (0, 0))) (hne : v.ownBlock ≠ some vb) (hc : c.length = 2) (hx : R (fun b => From base b ∧ v.ownBlock ≠ some b) w c x) :
    Calls Try.prog 156 #[v, .int .i64 i, .slice (some ⟨vb, 0, none⟩) 1 1] w (RetIns R 122 base w (ins l i x)) := by
  rcases Nat.lt_or_ge i l.length with h | h
  · obtain ⟨g, cap, cur, css, rfl, _⟩ := hown.row hR (by omega)
    have hx' : R (fun b => From base b ∧ b ≠ g) w c x := hR.less _ _ _ _ _ (fun b _ hs => ⟨hs.1, fun e => hs.2 (by simp [Value.ownBlock, e])⟩) hx
    by_cases hroom : l.length < cap
    · exact sinsertT_room hR hone w base l i x g cap vb c T hown h hroom hvb hc (fun e => hne (by simp [Value.ownBlock, e])) hx'
    · exact sinsertT_grow hR hone w base l i x g cap vb c T hown hb hl h hroom hvb hc hx'
  · obtain rfl : i = l.length := by omega
    have e : ins l l.length x = l ++ [x] := by simp [ins]
    rw [e]
    exact sinsertT_end hR hone w base v l x vb c T hown hb hl hvb hc hx
end Go.Proofs.Ythhcdibimnifaaa
