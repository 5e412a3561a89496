/- slices.Insert of one pair among pairs of the call's own: where there is no room; and all roads in one. -/
import Derived.Test.YthhcdibimnifaaaSIns
namespace Go.Proofs.Ythhcdibimnifaaa
open Go.RowKit
set_option linter.unusedVariables false
set_option linter.unusedSimpArgs false

theorem grow_cells {row c : List Value} {css : List (List Value)} {n i : Nat} (hw : Wide 2 css) (hcl : css.length = n) (ht : row.take (i * 2) = (css.take i).flatten) (hi : i ≤ n) (hc : c.length = 2) (hrow : (n + 1) * 2 ≤ row.length) (news : List Value) (hnews : news = (css.drop i).flatten) :
    ((row.take (i * 2) ++ c ++ row.drop (i * 2 + c.length)).take ((i + 1) * 2) ++ news ++ (row.take (i * 2) ++ c ++ row.drop (i * 2 + c.length)).drop ((i + 1) * 2 + news.length)).take ((n + 1) * 2) = (css.take i ++ c :: css.drop i).flatten := by
  have hdl : news.length = (n - i) * 2 := by rw [hnews, flat_len (hw.drop i), List.length_drop, hcl]
  have hl1 : (css.take i).flatten.length = i * 2 := by rw [flat_len (hw.take i), List.length_take]; omega
  have e1 : (row.take (i * 2) ++ c ++ row.drop (i * 2 + c.length)).take ((i + 1) * 2) = (css.take i).flatten ++ c := by
    have : ((css.take i).flatten ++ c).length = (i + 1) * 2 := by rw [List.length_append, hl1, hc]; omega
    rw [ht, ← this, List.take_left]
  have e3 : (css.take i ++ c :: css.drop i).flatten = (css.take i).flatten ++ c ++ news := by rw [List.flatten_append, List.flatten_cons, hnews, List.append_assoc]
  rw [e1, e3]
  have hl2 : ((css.take i).flatten ++ c ++ news).length = (n + 1) * 2 := by rw [List.length_append, List.length_append, hl1, hc, hdl]; omega
  rw [← hl2, List.take_left]
set_option maxRecDepth 100000 in
set_option maxHeartbeats 2000000 in
theorem sinsert_grow {α : Type} {R : (Nat → Prop) → World → List Value → α → Prop} (hR : Stays R) (hone : ∀ S w c x, R S w c x → ∀ u ∈ c, u.oneCell' = true) (w : World) (base : Nat) (l : List α) (i : Nat) (x : α) (g cap : Nat) (vb : Nat) (c : List Value) (T : TypeId)
    (hown : Own 2 R (From base) w base 39 (.slice (some ⟨g, 0, none⟩) l.length cap) l) (hb : base ≤ w.heap.size) (hl : l.length ≤ 100000) (hi : i < l.length) (hroom : ¬ l.length < cap) (hvb : w.heap[vb]? = some (.cells c.toArray T (0, 0))) (hc : c.length = 2) (hx : R (fun b => From base b ∧ b ≠ g) w c x) :
    Calls Try.prog 99 #[.slice (some ⟨g, 0, none⟩) l.length cap, .int .i64 i, .slice (some ⟨vb, 0, none⟩) 1 1] w (RetIns R 39 base w (ins l i x)) := by
  obtain ⟨i0, hi0, hz0, hz1, hz2⟩ := info_parts info_pair
  obtain ⟨g', cap', cur, css, hv, hg, hlt, hh, hcap, hmx, hcur, ht, hw, he⟩ := hown.row hR (by omega)
  cases hv
  obtain ⟨n, hn⟩ : ∃ n, n = l.length := ⟨_, rfl⟩
  have hcl : css.length = n := by rw [hn]; exact he.length
  rw [← hn] at hi hroom hcap ht hl ⊢
  obtain rfl : cap = n := by omega
  clear hcap hroom
  have hvlt : vb < w.heap.size := (Array.getElem?_eq_some_iff.1 hvb).1
  have hcells : ∀ j, j < cap * 2 → w.cell? ⟨g, j, none⟩ = css.flatten[j]? := by
    intro j hj
    rw [← ht, List.getElem?_take_of_lt hj, Array.getElem?_toList]
    simp [World.cell?, hh]
  have hfi : css.flatten.take (i * 2) = (css.take i).flatten := flat_take hw i (by omega)
  have hfl : (css.take i).flatten.length = i * 2 := by rw [flat_len (hw.take i), List.length_take]; omega
  have hdf : css.flatten.drop (i * 2) = (css.drop i).flatten := flat_drop hw i (by omega)
  have hdl : (css.drop i).flatten.length = (cap - i) * 2 := by rw [flat_len (hw.drop i), List.length_drop, hcl]
  obtain ⟨news, hnews⟩ : ∃ news, news = (css.drop i).flatten := ⟨_, rfl⟩
  rw [← hnews] at hdf hdl
  have hn1 : ∀ v ∈ news, v.oneCell' = true := by rw [hnews]; exact each_one hone (he.drop i)
  have hc1 : ∀ v ∈ c, v.oneCell' = true := hone _ _ _ _ hx
  have hsz : (Try.prog.info? 39).map (·.size) = some 2 := info_size hi0 hz1
  have hold : (Builtin.firstCells i0.size i (.slice (some ⟨g, 0, none⟩) i cap)).run Try.prog w.drew = .ok (css.take i).flatten.toArray w.drew := by
    rw [hz1]
    exact run_firstCells_some w.drew 2 i ⟨g, 0, none⟩ i cap _ hfl (fun j v hj => by
      rw [add_at, Nat.zero_add]
      have hjl := (List.getElem?_eq_some_iff.1 hj).1
      show w.cell? _ = _
      rw [hcells j (by omega), ← hj, ← hfi, List.getElem?_take_of_lt (by omega)])
  have hkk : (cap : Int) + 1 - (i : Int) = ((cap + 1 - i : Nat) : Int) := by omega
  have hik : i + (cap + 1 - i) = cap + 1 := by omega
  obtain ⟨G, hG⟩ : ∃ G, G = grownCap w (cap + 1) cap 39 := ⟨_, rfl⟩
  have hGn : cap + 1 ≤ G := by rw [hG]; exact grownCap_ge w _ _ _
  have hG63 : G ≤ maxLen := by
    have := grownCap_le_maxLen w (cap + 1) cap 39 (by unfold maxLen; omega)
    rwa [← hG] at this
  obtain ⟨ROW, hROW⟩ : ∃ ROW : Array Value, ROW = (css.take i).flatten.toArray ++ Builtin.zeroCells (Value.agg #[.slice none 0 0, .slice none 0 0]).cells (cap + 1 - i) ++ Builtin.zeroCells (Value.agg #[.slice none 0 0, .slice none 0 0]).cells (G - (cap + 1)) := ⟨_, rfl⟩
  have hrz : ∀ ty, (Builtin.append_ #[22, 3] ty #[.slice (some ⟨g, 0, none⟩) i cap, .int .i64 ((cap : Int) + 1 - (i : Int))]).run Try.prog w = .ok (.slice (some ⟨w.heap.size, 0, none⟩) (cap + 1) G) (w.drew.alloc (.cells ROW 39)) := fun ty => by
    have h := Lib.run_append_grow_zeros (P := Try.prog) w 22 3 ty 39 i0 _ .i64 .i64 Try.underlying22 Try.underlying3 hi0 hz0 (some ⟨g, 0, none⟩) i cap _ hold (cap + 1 - i) (by omega) (by omega) (by omega) (by omega) (by rw [hz2]; omega) (by rw [hz2, hik]; exact growslice_fits (by omega) (by omega))
    rw [hik, ← hG, ← hROW] at h
    rw [hkk]
    exact h
  have hRl : ROW.size = G * 2 := by
    rw [hROW]
    simp only [Array.size_append, List.size_toArray, hfl, size_zeroCells, Value.cells]
    simp
    omega
  have hRt : ROW.toList.take (i * 2) = (css.take i).flatten := by
    rw [hROW, Array.toList_append, Array.toList_append, List.append_assoc]
    show (((css.take i).flatten) ++ _).take (i * 2) = _
    rw [← hfl, List.take_left]
  clear hROW
  obtain ⟨W1, hW1⟩ : ∃ W1, W1 = w.drew.alloc (.cells ROW 39) := ⟨_, rfl⟩
  rw [← hW1] at hrz
  have hrow : W1.heap[w.heap.size]? = some (.cells ROW 39 (0, 0)) := by rw [hW1]; exact heap_alloc_new w.drew _
  have hN : ∀ j, j < G * 2 → (W1.cell? ⟨w.heap.size, j, none⟩).isSome = true := fun j hj => by
    simp [World.cell?, hrow, hRl, hj]
  have hNf : ∀ j, W1.frozen? ⟨w.heap.size, j, none⟩ = false := fun j => by simp [World.frozen?, hrow]
  have hOb : ∀ b j, b < w.heap.size → W1.cell? ⟨b, j, none⟩ = w.cell? ⟨b, j, none⟩ := fun b j h => by rw [hW1, World.cell?_alloc_past (w := w.drew) _ b j h]; rfl
  have hcpA : ∀ (W : World), (∀ x, W.cell? x = W1.cell? x) → (∀ x, W.frozen? x = W1.frozen? x) → ∀ ty dc, (Builtin.copy_ #[22, 22] ty #[.slice (some ⟨w.heap.size, i * 2, none⟩) (cap + 1 - i) dc, .slice (some ⟨vb, 0, none⟩) 1 1]).run Try.prog W = .ok (goInt ((1 : Nat) : Int)) (W.setCells w.heap.size (i * 2) c) := fun W hWc hWf ty dc =>
    run_copy_chunks W _ _ ty 39 2 1 w.heap.size (i * 2) (cap + 1 - i) dc ⟨vb, 0, none⟩ 1 1 c Try.underlying22 hsz (by simp only [Nat.min_def]; split <;> omega) (by rw [hc])
      (fun j v hj => by rw [add_at, hWc, Nat.zero_add, hOb _ _ hvlt, box_cell hvb, hj])
      (fun j hj => by rw [hWc]; exact hN _ (by omega)) (fun j hj => by rw [hWf]; exact hNf _) hc1
  have hcpB : ∀ (W : World), (∀ x, W.cell? x = (W1.setCells w.heap.size (i * 2) c).cell? x) → (∀ x, W.frozen? x = (W1.setCells w.heap.size (i * 2) c).frozen? x) → ∀ ty dc sc, (Builtin.copy_ #[22, 22] ty #[.slice (some ⟨w.heap.size, (i + 1) * 2, none⟩) (cap - i) dc, .slice (some ⟨g, i * 2, none⟩) (cap - i) sc]).run Try.prog W = .ok (goInt ((cap - i : Nat) : Int)) (W.setCells w.heap.size ((i + 1) * 2) news) := fun W hWc hWf ty dc sc =>
    run_copy_chunks W _ _ ty 39 2 (cap - i) w.heap.size ((i + 1) * 2) (cap - i) dc ⟨g, i * 2, none⟩ (cap - i) sc news Try.underlying22 hsz (by simp only [Nat.min_def]; split <;> omega) hdl
      (fun j v hj => by
        rw [add_at, hWc, World.cell?_setCells_out _ _ _ _ _ (fun h _ => absurd h (by show ¬ (g = w.heap.size); omega)), hOb _ _ hlt]
        have hjl := (List.getElem?_eq_some_iff.1 hj).1
        rw [hcells (i * 2 + j) (by omega), ← hj, ← hdf, List.getElem?_drop])
      (fun j hj => by rw [hWc]; exact World.isSome_setCells _ _ _ _ _ (hN _ (by omega)))
      (fun j hj => by rw [hWf, World.frozen?_setCells]; exact hNf _) hn1
  have hE : Same (fun b => From base b ∧ b ≠ w.heap.size) w W1 := by rw [hW1]; exact ((Same.refl _ _).drew).alloc _
  have hB : Below base w W1 := by rw [hW1]; exact ((Below.refl _ _).drew).alloc hb _
  have hE1 : ∀ x, ((w.alloc (.cells ROW 39)).drew).cell? x = W1.cell? x := fun x => by rw [hW1]; rfl
  have hE2 : ∀ x, ((w.alloc (.cells ROW 39)).drew).frozen? x = W1.frozen? x := fun x => by rw [hW1]; rfl
  have hWW : W1 = (w.alloc (.cells ROW 39)).drew := by rw [hW1]; rfl
  have HrzA := Lib.hid hrz
  have HcpA := Lib.hid hcpA
  have HcpB := Lib.hid hcpB
  have Hrest := Lib.hid (And.intro hh (And.intro hrow (And.intro hRl (And.intro hRt (And.intro hw (And.intro he (And.intro hx (And.intro hE hB))))))))
  have Hn := Lib.hid hn
  have Hcl := Lib.hid hcl
  have Hnews := Lib.hid hnews
  have Hdl := Lib.hid hdl
  have Hc := Lib.hid hc
  have HE1 := Lib.hid hE1
  have HE2 := Lib.hid hE2
  have HWW := Lib.hid hWW
  have HWd := Lib.hid hW1
  have hG63' : G ≤ 9223372036854775807 := by simp only [maxLen] at hG63; omega
  have HG63 := Lib.hid hG63
  clear hrz hcpA hcpB hown hh hcur ht hw he hx hW1 hn hcl hnews hdl hc hcells hdf hn1 hc1 hsz hvb hrow hRl hRt hN hNf hOb hE hB hE1 hE2 hWW hold hkk hik hfi hfl hlt hG hG63
  have hz2' : ((i : Int) == (cap : Int)) = false := by simp; omega
  have hw0 : IntKind.i64.wrap ((cap : Int) + 1) = (cap : Int) + 1 := by rw [IntKind.wrap_i64]; omega
  have hw1 : IntKind.i64.wrap ((i : Int) + 1) = (i : Int) + 1 := by rw [IntKind.wrap_i64]; omega
  have hw2 : IntKind.i64.wrap ((cap : Int) + 1 - (i : Int)) = (cap : Int) + 1 - (i : Int) := by rw [IntKind.wrap_i64]; omega
  have hb0 : decide ((cap : Int) < (cap : Int) + 1) = true := by simp; omega
  have hb1 : (0 : Int) ≤ (i : Int) + 1 := by omega
  have hin : i ≤ cap := by omega
  have htn : ((i : Int) + 1).toNat = i + 1 := by omega
  have hGi : ¬ (G = i) := by omega
  have hGim : ¬ (G = i + 1) := by omega
  have hci : ¬ (cap = i) := by omega
  have hb3 : (i : Int) ≤ (cap : Int) := by omega
  have hb7 : (i : Int) + 1 ≤ (cap : Int) + 1 := by omega
  go_enter Try.func99, Try.ntmps99
  go_wp2_with (first
    | (at_builtin; refine Lib.wpList_append_run _ rfl (.tmp 34) (.tmp 39) _ _ rfl _ _ rfl rfl _ _ (HrzA.out _) ?_)
    | (refine wpList_copy_runI _ rfl (.tmp 43) (.tmp 44) 22 22 rfl (.slice (some ⟨w.heap.size, i * 2, none⟩) (cap + 1 - i) (G - i)) (.slice (some ⟨vb, 0, none⟩) 1 1) ?hd1 ?hx1 (HcpA.out _ (fun _ => rfl) (fun _ => rfl) _ _) ?_; (case hd1 => simp [Act.eval, Act.put]); (case hx1 => simp [Act.eval, Act.put])))
  go_region_law ((refine step_copy_runI rfl (.tmp 50) (.tmp 53) 22 22 rfl (.slice (some ⟨w.heap.size, (i + 1) * 2, none⟩) (cap - i) (G - (i + 1))) (.slice (some ⟨g, i * 2, none⟩) (cap - i) (cap - i)) ?hd2 ?hx2 (HcpB.out (W1.setCells w.heap.size (i * 2) c).drew (fun _ => rfl) (fun _ => rfl) _ _ _) ?_); (case hd2 => simp [Act.eval, Act.put]); (case hx2 => simp [Act.eval, Act.put]))
  go_wp2
  go_ret
  obtain ⟨hh, hrow, hRl, hRt, hw, he, hx, hE, hB⟩ := Hrest.out
  have hil : (ins l i x).length = cap + 1 := by rw [ins_len, Hn.out]
  have hc2 := Hc.out
  have hh1 := heap_setCells_row c (i * 2) ROW W1 hrow (by rw [hRl, hc2]; omega)
  have hl1 : (ROW.toList.take (i * 2) ++ c ++ ROW.toList.drop (i * 2 + c.length)).toArray.size = G * 2 := by
    rw [size_row _ _ _ _ rfl (by rw [hc2]; show i * 2 + 2 ≤ ROW.size; rw [hRl]; omega)]
    exact hRl
  have hh2 := heap_setCells_row news ((i + 1) * 2) _ (W1.setCells w.heap.size (i * 2) c).drew hh1 (by rw [hl1, Hdl.out]; omega)
  have hs : Same (fun b => From base b ∧ b ≠ w.heap.size) w ((W1.setCells w.heap.size (i * 2) c).drew.setCells w.heap.size ((i + 1) * 2) news) :=
    Same.setCells (by simp) _ _ (Same.setCells (by simp) _ _ hE).drew
  have hbw : Below base w ((W1.setCells w.heap.size (i * 2) c).drew.setCells w.heap.size ((i + 1) * 2) news) :=
    below_setCells' hb _ _ (below_setCells' hb _ _ hB).drew
  have hrow' : ∀ c' x', R (fun b => From base b ∧ b ≠ g) w c' x' → R (fun b => From base b ∧ b ≠ w.heap.size) ((W1.setCells w.heap.size (i * 2) c).drew.setCells w.heap.size ((i + 1) * 2) news) c' x' := fun c' x' h' =>
    hR.same _ _ _ _ _ hs (hR.less _ _ _ _ _ (fun b hlt hs => ⟨hs.1, by omega⟩) h')
  refine ⟨.slice (some ⟨w.heap.size, 0, none⟩) (cap + 1) G, rfl, ?_, hbw⟩
  rw [← hil]
  refine Own.mk_row (css := css.take i ++ c :: css.drop i) (wide_ins hw hc2 i) ((each_ins he hx i).mono hrow') hb hh2 (by omega) HG63.out ?_ ?_ hR
  · rw [size_row _ _ _ _ rfl (by rw [Hdl.out]; show (i + 1) * 2 + (cap - i) * 2 ≤ Array.size _; rw [hl1]; omega)]
    exact hl1
  · rw [hil]
    exact grow_cells hw Hcl.out hRt (by omega) hc2 (by rw [Array.length_toList, hRl]; omega) news Hnews.out
/-- All roads. -/
theorem sinsert_ok {α : Type} {R : (Nat → Prop) → World → List Value → α → Prop} (hR : Stays R) (hone : ∀ S w c x, R S w c x → ∀ u ∈ c, u.oneCell' = true) (w : World) (base : Nat) (v : Value) (l : List α) (i : Nat) (x : α) (vb : Nat) (c : List Value) (T : TypeId)
    (hown : Own 2 R (From base) w base 39 v l) (hi : i ≤ l.length) (hb : base ≤ w.heap.size) (hl : l.length ≤ 100000) (hvb : w.heap[vb]? = some (.cells c.toArray T (0, 0))) (hne : v.ownBlock ≠ some vb) (hc : c.length = 2) (hx : R (fun b => From base b ∧ v.ownBlock ≠ some b) w c x) :
    Calls Try.prog 99 #[v, .int .i64 i, .slice (some ⟨vb, 0, none⟩) 1 1] w (RetIns R 39 base w (ins l i x)) := by
  rcases Nat.lt_or_ge i l.length with h | h
  · obtain ⟨g, cap, cur, css, rfl, _⟩ := hown.row hR (by omega)
    have hx' : R (fun b => From base b ∧ b ≠ g) w c x := hR.less _ _ _ _ _ (fun b _ hs => ⟨hs.1, fun e => hs.2 (by simp [Value.ownBlock, e])⟩) hx
    by_cases hroom : l.length < cap
    · exact sinsert_room hR hone w base l i x g cap vb c T hown h hroom hvb hc (fun e => hne (by simp [Value.ownBlock, e])) hx'
    · exact sinsert_grow hR hone w base l i x g cap vb c T hown hb hl h hroom hvb hc hx'
  · obtain rfl : i = l.length := by omega
    have e : ins l l.length x = l ++ [x] := by simp [ins]
    rw [e]
    exact sinsert_end hR hone w base v l x vb c T hown hb hl hvb hc hx
end Go.Proofs.Ythhcdibimnifaaa
