/- slices.Delete of one tenant among tenants of the call's own (twin of the text for pairs): the row stays the call's own. -/
import Derived.Test.YthhcdibimnifaaaSInsT
import Derived.Test.YthhcdibimnifaaaSDel
namespace Go.Proofs.Ythhcdibimnifaaa
open Go.RowKit
set_option linter.unusedVariables false
set_option linter.unusedSimpArgs false

theorem zero_ten (w : World) : (zeroValue 122).run Try.prog w = .ok (.agg #[.slice none 0 0, .slice none 0 0]) w := by
  obtain ⟨i0, hi0, hz0, _, _⟩ := info_parts info_ten
  simp [zeroValue, typeInfo, hi0, hz0]
theorem tenR_one : ∀ S w c x, TenR S w c x → ∀ u ∈ c, u.oneCell' = true := by
  rintro S w c x ⟨A, c1, B, d, rfl, _⟩ u hu
  simp only [List.mem_cons, List.not_mem_nil, or_false] at hu
  rcases hu with e | e <;> rw [e] <;> rfl
theorem ownT_one {S : Nat → Prop} {w : World} {l : List Tn} {xs : List Value} (hl : xs.length = l.length * 2) (h : ∀ i (h : i < l.length), TenR S w ((xs.drop (i * 2)).take 2) l[i]) : ∀ u ∈ xs, u.oneCell' = true := by
  intro u hu
  obtain ⟨j, hj, rfl⟩ := List.mem_iff_getElem.1 hu
  obtain ⟨A, c, V, d, hcs, _⟩ := h (j / 2) (by omega)
  have hin : xs[j] ∈ (xs.drop (j / 2 * 2)).take 2 := by
    refine List.mem_iff_getElem?.2 ⟨j % 2, ?_⟩
    rw [List.getElem?_take_of_lt (by omega), List.getElem?_drop, show j / 2 * 2 + j % 2 = j by omega, List.getElem?_eq_getElem hj]
  rw [hcs] at hin
  simp only [List.mem_cons, List.not_mem_nil, or_false] at hin
  rcases hin with e | e <;> rw [e] <;> rfl
set_option maxRecDepth 1000000 in
set_option maxHeartbeats 1600000 in
theorem sdeleteT_ok (w : World) (base : Nat) (v : Value) (l : List Tn) (i : Nat) (hown : Own 2 TenR (From base) w base 122 v l) (hi : i < l.length) :
    Calls Try.prog 155 #[v, .int .i64 i, .int .i64 (i + 1)] w (RetIns TenR 122 base w (l.take i ++ l.drop (i + 1))) := by
  obtain ⟨i0, hi0, hz0, hz1, hz2⟩ := info_parts info_ten
  have Hw := Lib.hid hown
  obtain ⟨xs, hrow, hels⟩ := hown
  obtain ⟨hxl, hr⟩ := hrow
  rcases hr with ⟨_, h0⟩ | ⟨g, cap, cur, rfl, hg, hheap, hcap, hmx, hcur, htake⟩
  · omega
  have hglt : g < w.heap.size := (Array.getElem?_eq_some_iff.1 hheap).1
  obtain ⟨n, hn⟩ : ∃ n, n = l.length := ⟨_, rfl⟩
  rw [← hn] at hi hxl hcap htake
  have hcell : ∀ j, j < 2 * n → w.cell? ⟨g, j, none⟩ = xs[j]? := by
    intro j hj
    rw [← htake, List.getElem?_take_of_lt (by omega), Array.getElem?_toList]
    simp [World.cell?, hheap]
  have hfroz : ∀ j, w.frozen? ⟨g, j, none⟩ = false := by
    intro j
    simp [World.frozen?, hheap]
  obtain ⟨news, hnews⟩ : ∃ news, news = xs.drop (2 * (i + 1)) := ⟨_, rfl⟩
  have hnl : news.length = (n - (i + 1)) * 2 := by rw [hnews, List.length_drop, hxl]; omega
  obtain ⟨A, hA, hAc⟩ : ∃ A, (if cap = i + 1 then some (⟨g, 0, none⟩ : Addr) else some ⟨g, (i + 1) * 2, none⟩) = some A ∧ Hid (∀ j u, news[j]? = some u → w.drew.cell? (A.add j) = some u) := by
    by_cases hc : cap = i + 1
    · refine ⟨_, by rw [if_pos hc], ?_⟩
      intro j u hu
      have := (List.getElem?_eq_some_iff.1 hu).1
      omega
    · refine ⟨_, by rw [if_neg hc], ?_⟩
      intro j u hu
      have hj := (List.getElem?_eq_some_iff.1 hu).1
      rw [hnews, List.getElem?_drop] at hu
      rw [add_at]
      exact (hcell ((i + 1) * 2 + j) (by omega)).trans (by rw [← hu]; congr 1; omega)
  have S1 := Lib.hid hnl
  have S2 : Hid (∀ u ∈ news, u.oneCell' = true) := by
    intro u hu
    rw [hnews] at hu
    exact ownT_one (by rw [hxl, hn]) hels u (List.mem_of_mem_drop hu)
  have S3 : Hid (∀ j, j < news.length → (w.drew.cell? ⟨g, 0 + i * 2 + j, none⟩).isSome = true ∧ w.drew.frozen? ⟨g, 0 + i * 2 + j, none⟩ = false) := by
    intro j hj
    refine ⟨?_, hfroz _⟩
    have := hcell (i * 2 + j) (by omega)
    show (w.cell? _).isSome = true
    rw [Nat.zero_add, this, List.getElem?_eq_getElem (by omega)]
    rfl
  have hwr : IntKind.i64.wrap ((i : Int) + 1) = (i : Int) + 1 := by rw [IntKind.wrap_i64]; simp only [maxLen] at hmx; omega
  have hp0 : (0 : Int) ≤ (i : Int) + 1 := by omega
  have hp1 : (i : Int) + 1 ≤ (n : Int) := by omega
  have hp2 : ((i : Int) + 1).toNat = i + 1 := by omega
  have hp3 : ((i : Int) == (i : Int) + 1) = false := by simp; omega
  have hic : i ≤ cap := by omega
  have Hels := Lib.hid hels
  have Hheap := Lib.hid hheap
  have Hcell := Lib.hid hcell
  have Hfroz := Lib.hid hfroz
  have Htake := Lib.hid htake
  have Hnews := Lib.hid hnews
  have Hmx := Lib.hid hmx
  have Hcur := Lib.hid hcur
  have hcap' : n ≤ cap := hcap
  clear hels hheap hcell hfroz htake hnews hmx hcur hnl
  rw [← hn]
  have Hn := Lib.hid hn
  clear hn
  go_enter Try.func155, Try.ntmps155
  go_wp2_with fail
  go_region_law (refine step_append_room rfl (.tmp 22) (.tmp 25) 43 rfl 122 i0 2 Try.underlying43 hi0 hz1 g 0 i cap (by simp [Act.eval, Act.put]) A (n - (i + 1)) (cap - (i + 1)) news (by simp [Act.eval, Act.put]; try assumption) S1.out hAc.out S2.out (by omega) S3.out ?_)
  have Hc2 : Hid (∀ j, j < [Value.slice none 0 0, Value.slice none 0 0].length → (((w.drew.setCells g (i * 2) news)).cell? ⟨g, (i + (n - (i + 1))) * 2 + j, none⟩).isSome = true) := by
    intro j hj
    have hj2 : j < 2 := hj
    refine World.isSome_setCells g news _ _ _ ?_
    show (w.cell? _).isSome = true
    rw [Hcell.out _ (by omega), List.getElem?_eq_getElem (by omega)]
    rfl
  have Hf2 : Hid (∀ j, j < [Value.slice none 0 0, Value.slice none 0 0].length → (((w.drew.setCells g (i * 2) news)).frozen? ⟨g, (i + (n - (i + 1))) * 2 + j, none⟩) = false) := by
    intro j _
    rw [World.frozen?_setCells]
    exact Hfroz.out _
  go_wp2_with (refine wpl_clear rfl _ _ rfl 122 _ [.slice none 0 0, .slice none 0 0] Try.underlying43 zero_ten rfl (by simp [Value.oneCell']) g ((i + (n - (i + 1))) * 2) (cap - (i + (n - (i + 1)))) ?hx Hc2.out Hf2.out ?_; (case hx => simp [Act.eval]; omega))
  go_ret
  obtain ⟨g', cap', cur', css, hv', hg', hglt', hh', hcap2, hmx2, hcur2, ht2, hw2, he2⟩ := Hw.out.row tenR_stays (by rw [← Hn.out]; omega)
  cases hv'
  have ecur : cur' = cur := by have := hh'.symm.trans Hheap.out; injection this with this; injection this
  subst ecur
  rw [← Hn.out] at ht2 hcap2
  have hcl : css.length = n := by rw [Hn.out]; exact he2.length
  have hxs : xs = css.flatten := by rw [← Htake.out, ht2]
  have hnw : news = (css.drop (i + 1)).flatten := by rw [Hnews.out, hxs, Nat.mul_comm 2 (i + 1)]; exact flat_drop hw2 (i + 1) (by omega)
  have hcs := Hcur.out
  have hh1 := heap_setCells_row news (i * 2) cur' w.drew hh' (by rw [S1.out]; omega)
  have hl1 : (cur'.toList.take (i * 2) ++ news ++ cur'.toList.drop (i * 2 + news.length)).toArray.size = cap * 2 := by
    rw [size_row _ _ _ _ rfl (by rw [S1.out]; show i * 2 + (n - (i + 1)) * 2 ≤ Array.size _; omega)]
    exact hcs
  have hh2 := heap_setCells_row [.slice none 0 0, .slice none 0 0] ((i + (n - (i + 1))) * 2) _ (w.drew.setCells g (i * 2) news) hh1 (by rw [hl1]; show (i + (n - (i + 1))) * 2 + 2 ≤ _; omega)
  have hbw : Below base w ((w.drew.setCells g (i * 2) news).setCells g ((i + (n - (i + 1))) * 2) [.slice none 0 0, .slice none 0 0]) := below_setCells' hg _ _ (below_setCells' hg _ _ (Below.refl _ _).drew)
  have hs : Same (fun b => From base b ∧ b ≠ g) w ((w.drew.setCells g (i * 2) news).setCells g ((i + (n - (i + 1))) * 2) [.slice none 0 0, .slice none 0 0]) :=
    Same.setCells (by simp) _ _ (Same.setCells (by simp) _ _ (Same.refl _ _).drew)
  have hll : (l.take i ++ l.drop (i + 1)).length = i + (n - (i + 1)) := by rw [List.length_append, List.length_take, List.length_drop, ← Hn.out]; omega
  generalize (w.drew.setCells g (i * 2) news).setCells g ((i + (n - (i + 1))) * 2) [.slice none 0 0, .slice none 0 0] = WW at hbw hs hh2 ⊢
  refine ⟨.slice (some ⟨g, 0, none⟩) (i + (n - (i + 1))) cap, rfl, ?_, hbw⟩
  rw [← hll]
  refine Own.mk_row (css := css.take i ++ css.drop (i + 1)) ((hw2.take i).append (hw2.drop (i + 1))) ((Each.append (he2.drop (i + 1)) (he2.take i)).mono fun c' x' h' => tenR_stays.same _ _ _ _ _ hs h') hg hh2 (by omega) hmx2 ?_ ?_ tenR_stays
  · rw [size_row _ _ _ _ rfl (by show (i + (n - (i + 1))) * 2 + 2 ≤ Array.size _; rw [hl1]; omega)]
    exact hl1
  · rw [hll]
    have hf1 : (css.take i).flatten.length = i * 2 := by rw [flat_len (hw2.take i), List.length_take]; omega
    have e1 : cur'.toList.take (i * 2) = (css.take i).flatten := by rw [← flat_take hw2 i (by omega), ← ht2, List.take_take, Nat.min_eq_left (by omega)]
    have e2 : ((css.take i).flatten ++ news).length = (i + (n - (i + 1))) * 2 := by rw [List.length_append, hf1, S1.out]; omega
    show ((((cur'.toList.take (i * 2) ++ news ++ cur'.toList.drop (i * 2 + news.length))).take ((i + (n - (i + 1))) * 2) ++ _ ++ _).take _) = _
    rw [e1, List.flatten_append, ← hnw, ← e2, List.take_left, List.append_assoc ((css.take i).flatten ++ news), List.take_left]
end Go.Proofs.Ythhcdibimnifaaa
