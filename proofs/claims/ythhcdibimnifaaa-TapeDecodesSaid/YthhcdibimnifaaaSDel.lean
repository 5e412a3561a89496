/- slices.Delete of pairs. -/
import Derived.Test.YthhcdibimnifaaaPairs
import Derived.Test.YthhcdibimnifaaaChunk
namespace Go.Proofs.Ythhcdibimnifaaa
open Go.RowKit
set_option linter.unusedVariables false
set_option linter.unusedSimpArgs false

theorem run_clear_one {P : Program} (w : World) (t e ty : TypeId) (z : Value) (zs : List Value) (ht : P.underlying t = some (.slice e)) (hv : ∀ w, (zeroValue e).run P w = .ok z w) (hz : z.cells = zs.toArray) (h1 : ∀ v ∈ zs, v.oneCell' = true) (b o c : Nat)
    (hc : ∀ j, j < zs.length → (w.cell? ⟨b, o + j, none⟩).isSome = true) (hf : ∀ j, j < zs.length → w.frozen? ⟨b, o + j, none⟩ = false) :
    (Builtin.clear_ #[t] ty #[.slice (some ⟨b, o, none⟩) 1 c]).run P w = .ok (.tuple #[]) (w.setCells b o zs) := by
  have hzc : (Builtin.zeroCells z.cells 1).toList = zs := by
    rw [hz]
    apply List.ext_getElem
    · simp [Builtin.zeroCells]
    · intro i h1 h2
      simp [Builtin.zeroCells, Nat.mod_eq_of_lt h2, List.getElem?_eq_getElem h2]
  have hst := run_storeCells_cells (P := P) b o zs 0 w (by simpa using hc) (by simpa using hf) h1
  simp only [Nat.add_zero] at hst
  simp [Builtin.clear_, run_underlying ht, hv, hzc, hst]
theorem wpl_clear {P : Program} {w : World} {ops : Array Oper} {rest : List Oper} {o : Oper} {a : Act} {Q : Exit → Act → World → Prop} (hgd : o.guard = none) (x : Operand) (t : TypeId)
    (ho : o.op = .call { callee := .builtin .clear, args := #[x], argTypes := #[t] })
    (e : TypeId) (z : Value) (zs : List Value) (ht : P.underlying t = some (.slice e)) (hv : ∀ w, (zeroValue e).run P w = .ok z w) (hz : z.cells = zs.toArray) (h1 : ∀ v ∈ zs, v.oneCell' = true) (b off c : Nat) (hx : a.eval x = .slice (some ⟨b, off, none⟩) 1 c)
    (hc : ∀ j, j < zs.length → (w.cell? ⟨b, off + j, none⟩).isSome = true) (hf : ∀ j, j < zs.length → w.frozen? ⟨b, off + j, none⟩ = false)
    (h : wpList P ops Q rest (a.put o.dst (.tuple #[])) (w.setCells b off zs)) : wpList P ops Q (o :: rest) a w :=
  wpList_plain hgd fun _ hK => by
    have hrun := run_clear_one (P := P) w t e o.type z zs ht hv hz h1 b off c hc hf
    unfold Oper.wp execOp
    simp only [ho, resolve, invoke, builtin, Sem.run_bind, Sem.run_pure, Result.andThen_ok, List.map_toArray, List.map_cons, List.map_nil, hx, hrun]
    exact hK _ _ h
theorem zero_pair (w : World) : (zeroValue 39).run Try.prog w = .ok (.agg #[.slice none 0 0, .slice none 0 0]) w := by
  obtain ⟨i0, hi0, hz0, _, _⟩ := info_parts info_pair
  simp [zeroValue, typeInfo, hi0, hz0]
theorem own_one {S : Nat → Prop} {w : World} {l : List Pr} {xs : List Value} (hl : xs.length = l.length * 2) (h : ∀ i (h : i < l.length), PairR S w ((xs.drop (i * 2)).take 2) l[i]) : ∀ u ∈ xs, u.oneCell' = true := by
  intro u hu
  obtain ⟨j, hj, rfl⟩ := List.mem_iff_getElem.1 hu
  obtain ⟨A, c, V, d, hcs, _⟩ := h (j / 2) (by omega)
  have hin : xs[j] ∈ (xs.drop (j / 2 * 2)).take 2 := by
    refine List.mem_iff_getElem?.2 ⟨j % 2, ?_⟩
    rw [List.getElem?_take_of_lt (by omega), List.getElem?_drop, show j / 2 * 2 + j % 2 = j by omega, List.getElem?_eq_getElem hj]
  rw [hcs] at hin
  simp only [List.mem_cons, List.not_mem_nil, or_false] at hin
  rcases hin with e | e <;> rw [e] <;> rfl
/-- What slices.Delete leaves. -/
def cut1 (l : List Pr) (i : Nat) : List Pr := l.take i ++ l.drop (i + 1)
theorem cut1_at (l : List Pr) (i p : Nat) (hi : i < l.length) : (cut1 l i)[p]? = if p < i then l[p]? else l[p + 1]? := by
  unfold cut1
  split
  · rename_i h
    rw [List.getElem?_append_left (by rw [List.length_take]; omega), List.getElem?_take_of_lt h]
  · rw [List.getElem?_append_right (by rw [List.length_take]; omega), List.getElem?_drop]
    congr 1
    rw [List.length_take]
    omega
set_option maxRecDepth 1000000 in
set_option maxHeartbeats 1600000 in
theorem sdelete_ok (w : World) (base : Nat) (v : Value) (l : List Pr) (i : Nat) (hown : Own 2 PairR (From base) w base 39 v l) (hi : i < l.length) (hb : base ≤ w.heap.size) :
    Calls Try.prog 96 #[v, .int .i64 i, .int .i64 (i + 1)] w (fun e w' => ∃ A c, e = .returned (.slice A (cut1 l i).length c) ∧ (cut1 l i).length ≤ c ∧ Ps (From base) w' A (cut1 l i) ∧ Below base w w') := by
  obtain ⟨i0, hi0, hz0, hz1, hz2⟩ := info_parts info_pair
  obtain ⟨xs, hrow, hels⟩ := hown
  obtain ⟨hxl, hr⟩ := hrow
  rcases hr with ⟨_, h0⟩ | ⟨g, cap, cur, rfl, hg, hheap, hcap, hmx, hcur, htake⟩
  · omega
  have hglt : g < w.heap.size := (Array.getElem?_eq_some_iff.1 hheap).1
  obtain ⟨n, hn⟩ : ∃ n, n = l.length := ⟨_, rfl⟩
  rw [← hn] at hi hxl hcap htake
  have hcell : ∀ j, j < 2 * n → w.cell? ⟨g, j, none⟩ = xs[j]? := by
    intro j hj
    rw [← htake, List.getElem?_take_of_lt (by omega), Array.getElem?_toList]
    simp [World.cell?, hheap]
  have hfroz : ∀ j, w.frozen? ⟨g, j, none⟩ = false := by
    intro j
    simp [World.frozen?, hheap]
  obtain ⟨news, hnews⟩ : ∃ news, news = xs.drop (2 * (i + 1)) := ⟨_, rfl⟩
  have hnl : news.length = (n - (i + 1)) * 2 := by rw [hnews, List.length_drop, hxl]; omega
  obtain ⟨A, hA, hAc⟩ : ∃ A, (if cap = i + 1 then some (⟨g, 0, none⟩ : Addr) else some ⟨g, (i + 1) * 2, none⟩) = some A ∧ Hid (∀ j u, news[j]? = some u → w.drew.cell? (A.add j) = some u) := by
    by_cases hc : cap = i + 1
    · refine ⟨_, by rw [if_pos hc], ?_⟩
      intro j u hu
      have := (List.getElem?_eq_some_iff.1 hu).1
      omega
    · refine ⟨_, by rw [if_neg hc], ?_⟩
      intro j u hu
      have hj := (List.getElem?_eq_some_iff.1 hu).1
      rw [hnews, List.getElem?_drop] at hu
      rw [add_at]
      exact (hcell ((i + 1) * 2 + j) (by omega)).trans (by rw [← hu]; congr 1; omega)
  have S1 := Lib.hid hnl
  have S2 : Hid (∀ u ∈ news, u.oneCell' = true) := by
    intro u hu
    rw [hnews] at hu
    exact own_one (by rw [hxl, hn]) hels u (List.mem_of_mem_drop hu)
  have S3 : Hid (∀ j, j < news.length → (w.drew.cell? ⟨g, 0 + i * 2 + j, none⟩).isSome = true ∧ w.drew.frozen? ⟨g, 0 + i * 2 + j, none⟩ = false) := by
    intro j hj
    refine ⟨?_, hfroz _⟩
    have := hcell (i * 2 + j) (by omega)
    show (w.cell? _).isSome = true
    rw [Nat.zero_add, this, List.getElem?_eq_getElem (by omega)]
    rfl
  have hwr : IntKind.i64.wrap ((i : Int) + 1) = (i : Int) + 1 := by rw [IntKind.wrap_i64]; simp only [maxLen] at hmx; omega
  have hp0 : (0 : Int) ≤ (i : Int) + 1 := by omega
  have hp1 : (i : Int) + 1 ≤ (n : Int) := by omega
  have hp2 : ((i : Int) + 1).toNat = i + 1 := by omega
  have hp3 : ((i : Int) == (i : Int) + 1) = false := by simp; omega
  have hic : i ≤ cap := by omega
  have Hels := Lib.hid hels
  have Hheap := Lib.hid hheap
  have Hcell := Lib.hid hcell
  have Hfroz := Lib.hid hfroz
  have Htake := Lib.hid htake
  have Hnews := Lib.hid hnews
  have Hmx := Lib.hid hmx
  have Hcur := Lib.hid hcur
  have hcap' : n ≤ cap := hcap
  clear hels hheap hcell hfroz htake hnews hmx hcur hnl
  rw [← hn]
  have Hn := Lib.hid hn
  clear hn
  go_enter Try.func96, Try.ntmps96
  go_wp2_with fail
  go_region_law (refine step_append_room rfl (.tmp 22) (.tmp 25) 22 rfl 39 i0 2 Try.underlying22 hi0 hz1 g 0 i cap (by simp [Act.eval, Act.put]) A (n - (i + 1)) (cap - (i + 1)) news (by simp [Act.eval, Act.put]; try assumption) S1.out hAc.out S2.out (by omega) S3.out ?_)
  have Hc2 : Hid (∀ j, j < [Value.slice none 0 0, Value.slice none 0 0].length → (((w.drew.setCells g (i * 2) news)).cell? ⟨g, (i + (n - (i + 1))) * 2 + j, none⟩).isSome = true) := by
    intro j hj
    have hj2 : j < 2 := hj
    refine World.isSome_setCells g news _ _ _ ?_
    show (w.cell? _).isSome = true
    rw [Hcell.out _ (by omega), List.getElem?_eq_getElem (by omega)]
    rfl
  have Hf2 : Hid (∀ j, j < [Value.slice none 0 0, Value.slice none 0 0].length → (((w.drew.setCells g (i * 2) news)).frozen? ⟨g, (i + (n - (i + 1))) * 2 + j, none⟩) = false) := by
    intro j _
    rw [World.frozen?_setCells]
    exact Hfroz.out _
  go_wp2_with (refine wpl_clear rfl _ _ rfl 39 _ [.slice none 0 0, .slice none 0 0] Try.underlying22 zero_pair rfl (by simp [Value.oneCell']) g ((i + (n - (i + 1))) * 2) (cap - (i + (n - (i + 1)))) ?hx Hc2.out Hf2.out ?_; (case hx => simp [Act.eval]; omega))
  go_ret
  have hcut : (cut1 l i).length = i + (n - (i + 1)) := by unfold cut1; rw [List.length_append, List.length_take, List.length_drop, ← Hn.out]; omega
  have hbw : Below base w ((w.drew.setCells g (i * 2) news).setCells g ((i + (n - (i + 1))) * 2) [.slice none 0 0, .slice none 0 0]) := below_setCells' hg _ _ (below_setCells' hg _ _ (Below.refl _ _).drew)
  rw [hcut]
  refine ⟨some ⟨g, 0, none⟩, cap, by simp, by omega, ?_, hbw⟩
  intro hl
  refine ⟨g, 0, rfl, hg, Nat.lt_of_lt_of_le hglt hbw.size, fun p hp => ?_⟩
  have hpn : p < i + (n - (i + 1)) := by rw [← hcut]; exact hp
  obtain ⟨q, hq, hq'⟩ : ∃ q, q < n ∧ ((q = p ∧ p < i) ∨ (q = p + 1 ∧ i ≤ p)) := by
    by_cases h : p < i
    · exact ⟨p, by omega, .inl ⟨rfl, h⟩⟩
    · exact ⟨p + 1, by omega, .inr ⟨rfl, by omega⟩⟩
  have hlq : q < l.length := by rw [← Hn.out]; exact hq
  have hget : (cut1 l i)[p] = l[q] := by
    have e := cut1_at l i p (by rw [← Hn.out]; exact hi)
    rw [List.getElem?_eq_getElem hp] at e
    rcases hq' with ⟨rfl, h⟩ | ⟨rfl, h⟩
    · rw [if_pos h, List.getElem?_eq_getElem hlq] at e
      exact Option.some.inj e
    · rw [if_neg (by omega), List.getElem?_eq_getElem hlq] at e
      exact Option.some.inj e
  have hR := Hels.out q hlq
  have hsame : Same (fun b => From base b ∧ (Value.slice (some ⟨g, 0, none⟩) n cap).ownBlock ≠ some b) w ((w.drew.setCells g (i * 2) news).setCells g ((i + (n - (i + 1))) * 2) [.slice none 0 0, .slice none 0 0]) :=
    Same.setCells (by simp [Value.ownBlock]) _ _ (Same.setCells (by simp [Value.ownBlock]) _ _ (Same.refl _ _).drew)
  refine ⟨(xs.drop (q * 2)).take 2, by rw [List.length_take, List.length_drop, hxl]; omega, fun j hj => ?_, ?_⟩
  · rw [World.cell?_setCells_out g _ _ _ _ (fun _ _ => by left; show 0 + p * 2 + j < _; omega), List.getElem?_take_of_lt hj, List.getElem?_drop]
    rcases hq' with ⟨rfl, h⟩ | ⟨rfl, h⟩
    · rw [World.cell?_setCells_out g _ _ _ _ (fun _ _ => by left; show 0 + q * 2 + j < _; omega)]
      show w.cell? _ = _
      rw [Hcell.out _ (by omega)]
      congr 1
      omega
    · have hjn : p * 2 + j - i * 2 < news.length := by rw [S1.out]; omega
      have hin := World.cell?_setCells_in g news (i * 2) w.drew (fun k hk => by rw [← Nat.zero_add (i * 2)]; exact (S3.out k hk).1) (p * 2 + j - i * 2) hjn
      rw [show 0 + p * 2 + j = i * 2 + (p * 2 + j - i * 2) by omega, hin, ← List.getElem?_eq_getElem hjn, Hnews.out, List.getElem?_drop]
      congr 1
      omega
  · rw [hget]
    exact pairR_stays.less _ _ _ _ _ (fun b _ hs => hs.1) (pairR_stays.same _ _ _ _ _ hsame hR)
end Go.Proofs.Ythhcdibimnifaaa
