/- ChgS: The library's slices.SortFunc at a row of writes with history.compare: the row holds the same writes, none ahead of an earlier one. The conditions of each are in its words. -/
import Derived.Shelf.SlSortCmp.NoneTotal
import Derived.Test.YthohkgggodhbcaaGreatKChgC
import Derived.Test.YthohkgggodhbcaaGreatKSortLay
import Derived.Test.YthohkgggodhbcaaGreatKTrees
namespace Go.Proofs.YthohkgggodhbcaaGreat
open Go.RowKit Go.Sort Go.Shelf
set_option linter.unusedVariables false
set_option linter.unusedSimpArgs false

theorem Each.pack {α : Type} {R : List Value → α → Prop} : ∀ {cs : List (List Value)} {l : List α}, Each R cs l → ∃ dl : List {p : List Value × α // R p.1 p.2}, dl.map (·.1.1) = cs ∧ dl.map (·.1.2) = l
  | [], [], _ => ⟨[], rfl, rfl⟩
  | c :: cs, x :: l, h => by
    obtain ⟨dl, h1, h2⟩ := Each.pack h.2
    exact ⟨⟨(c, x), h.1⟩ :: dl, by simp [h1], by simp [h2]⟩
theorem Each.unpack {α : Type} {R : List Value → α → Prop} : ∀ (dl : List {p : List Value × α // R p.1 p.2}), Each R (dl.map (·.1.1)) (dl.map (·.1.2))
  | [] => trivial
  | p :: dl => ⟨p.2, Each.unpack dl⟩
theorem flatK_list {α : Type} [Inhabited α] {enc : α → List Value} {k : Nat} (hk : ∀ x, (enc x).length = k) (d : Array α) : (flatK enc k d).toList = (d.toList.map enc).flatten := by
  have hw : Wide k (d.toList.map enc) := fun c hc => by
    obtain ⟨x, _, rfl⟩ := List.mem_map.1 hc
    exact hk x
  apply List.ext_getElem
  · rw [Array.length_toList, size_flatK, flat_len hw]
    simp
  · intro t h1 h2
    have ht : t < d.size * k := by simpa using h1
    have k0 : 0 < k := by
      rcases Nat.eq_zero_or_pos k with h | h
      · subst h; simp at ht
      · exact h
    have hi : t / k < d.size := (Nat.div_lt_iff_lt_mul k0).2 ht
    have hm : t % k < k := Nat.mod_lt _ k0
    have e1 : (flatK enc k d).toList[t] = (enc d[t / k]!)[t % k]! := by
      rw [← get_flatK enc k d t ht, getElem!_pos _ t (by simpa using h1), Array.getElem_toList]
    have hf := flat_at hw (t / k) (by simpa using hi)
    have e2 : (d.toList.map enc).flatten[t]? = (enc d[t / k]!)[t % k]? := by
      have e3 : (d.toList.map enc)[t / k]'(by simpa using hi) = enc d[t / k]! := by
        rw [List.getElem_map, Array.getElem_toList, getElem!_pos d _ hi]
      rw [← e3, ← hf, List.getElem?_take_of_lt hm, List.getElem?_drop, Nat.mul_comm, Nat.div_add_mod]
    rw [e1]
    rw [List.getElem?_eq_getElem h2] at e2
    have e4 : (enc d[t / k]!)[t % k]? = some (enc d[t / k]!)[t % k]! := by
      have hb : t % k < (enc d[t / k]!).length := by rw [hk]; exact hm
      rw [List.getElem?_eq_getElem hb, getElem!_pos (enc d[t / k]!) (t % k) hb]
    rw [e4] at e2
    injection e2 with e2
    exact e2.symm
theorem put_heap {w : World} {g n : Nat} {cur : Array Value} {e : TypeId} {F : Array Value} {os : Array Obj} (hh : w.heap[g]? = some (.cells cur e (0, 0))) (hF : F.size ≤ cur.size) :
    (∃ cur', (grow (putRow id (Go.Sort.ahead w n) g 0 F) os).heap[g]? = some (.cells cur' e (0, 0)) ∧ cur'.size = cur.size ∧ cur'.toList.take F.size = F.toList) ∧ (∀ b, b ≠ g → b < w.heap.size → (grow (putRow id (Go.Sort.ahead w n) g 0 F) os).heap[b]? = w.heap[b]?) ∧ (grow (putRow id (Go.Sort.ahead w n) g 0 F) os).heap.size = w.heap.size + os.size := by
  have hg : g < w.heap.size := (Array.getElem?_eq_some_iff.1 hh).1
  refine ⟨⟨putCells id 0 F cur, ?_, by simp [putCells], ?_⟩, fun b hb hlt => ?_, by simp [grow, putRow, mapBlock, Go.Sort.ahead]⟩
  · simp only [grow, putRow, mapBlock, Go.Sort.ahead]
    rw [Array.getElem?_append_left (by simpa using hg), Array.getElem?_modify, if_pos rfl, hh]
    rfl
  · apply List.ext_getElem
    · simp [putCells]; omega
    · intro t h1 h2
      have ht : t < F.size := by simpa using h2
      simp only [List.getElem_take, Array.getElem_toList, putCells, Array.getElem_mapIdx]
      rw [if_pos ⟨Nat.zero_le _, by omega⟩]
      simp only [Nat.sub_zero, id]
      rw [getElem!_pos _ t ht]
  · simp only [grow, putRow, mapBlock, Go.Sort.ahead]
    rw [Array.getElem?_append_left (by simpa using hlt), Array.getElem?_modify, if_neg fun q => hb q.symm]
theorem holdsK_row {α : Type} [Inhabited α] {enc : α → List Value} {k : Nat} (hk : ∀ x, (enc x).length = k) {w : World} {g : Nat} {cur : Array Value} {e : TypeId} {d : Array α} (hh : w.heap[g]? = some (.cells cur e (0, 0))) (ht : cur.toList.take (d.size * k) = (d.toList.map enc).flatten) (hc : d.size * k ≤ cur.size) : HoldsK enc k w g 0 d := by
  intro j hj
  rw [size_flatK] at hj
  have hjc : j < cur.size := by omega
  refine ⟨?_, ?_⟩
  · rw [← flatK_list hk] at ht
    have e1 : (cur.toList.take (d.size * k))[j]? = some (cur[j]'hjc) := by
      rw [List.getElem?_take_of_lt hj, List.getElem?_eq_getElem (by simpa using hjc), Array.getElem_toList]
    rw [ht] at e1
    have e2 : (flatK enc k d).toList[j]? = some (flatK enc k d)[j]! := by
      rw [getElem!_pos _ j (by rw [size_flatK]; exact hj), List.getElem?_eq_getElem (by simpa using hj), Array.getElem_toList]
    rw [e2] at e1
    have h := box_cell (cs := cur.toList) (w := w) (g := g) (t := e) (by simpa using hh) (0 + j)
    rw [h, Nat.zero_add, List.getElem?_eq_getElem (by simpa using hjc), Array.getElem_toList]
    simpa using e1.symm
  · exact box_frozen (cs := cur.toList) (w := w) (g := g) (t := e) (by simpa using hh) (0 + j)

/-- A write of a row's, with its four cells. -/
abbrev El (S : Nat → Prop) (w : World) : Type := {p : List Value × Wr // WrR S w p.1 p.2}
theorem el_len {S : Nat → Prop} {w : World} (x : El S w) : x.1.1.length = 4 := by
  obtain ⟨⟨cs, y⟩, A, a, B, b, C, c, h, _⟩ := x
  dsimp only at h ⊢
  rw [h]
  rfl
theorem el_one {S : Nat → Prop} {w : World} (x : El S w) : ∀ v ∈ x.1.1, v.oneCell' = true := by
  obtain ⟨⟨cs, y⟩, A, a, B, b, C, c, h, _⟩ := x
  dsimp only at h ⊢
  rw [h]
  intro v hv
  simp only [List.mem_cons, List.not_mem_nil, or_false] at hv
  rcases hv with rfl | rfl | rfl | rfl <;> rfl
instance (S : Nat → Prop) (w : World) : Inhabited (El S w) := ⟨⟨([.slice none 0 0, .slice none 0 0, .bool false, .slice none 0 0], ⟨[], [], false, []⟩), none, 0, none, 0, none, 0, rfl, SL.nil, SL.nil, SL.nil, Nat.zero_le _, Nat.zero_le _, Nat.zero_le _⟩⟩
theorem sortW_ok (w : World) (base : Nat) (S : Nat → Prop) (v : Value) (l : List Wr) (hown : Own 4 WrR S w base 40 v l) (hn : l.length ≤ big) :
    Calls Tryz.prog 24 #[v, .func (.func 25) #[] #[]] w fun e w' => e = .returned (.tuple #[]) ∧ ∃ l', l'.Perm l ∧ l'.Pairwise (fun x y => plLt y x = false) ∧ Own 4 WrR S w' base 40 v l' ∧ Below base w w' := by
  rcases Nat.eq_zero_or_pos l.length with h0 | h0
  · obtain rfl : l = [] := List.eq_nil_of_length_eq_zero h0
    obtain ⟨p, c, rfl⟩ := own_slice hown
    exact (AnyF.slices_SortFunc_none Tryz.sortWr p c _ w).mono fun e w' ⟨h1, h2⟩ => ⟨h1, [], List.Perm.refl _, List.Pairwise.nil, h2 ▸ hown, h2 ▸ Below.refl _ _⟩
  obtain ⟨g, cap, cur, css, rfl, hbg, hglt, hh, hcap, hmx, hcur, ht, hw, he⟩ := hown.row wrR_stays h0
  obtain ⟨dl, hd1, hd2⟩ := Each.pack he
  have hdl : dl.length = l.length := by rw [← hd2, List.length_map]
  have hsz : dl.toArray.size = l.length := by rw [List.size_toArray, hdl]
  have hlc : l.length * 4 ≤ cap * 4 := Nat.mul_le_mul_right _ hcap
  have hH : HoldsK (fun x : El (fun b => S b ∧ b ≠ g) w => x.1.1) 4 w g 0 dl.toArray := holdsK_row el_len hh (by rw [hsz, ht, ← hd1]) (by rw [hsz, hcur]; exact hlc)
  have hO : SWO (ltOf fun x y : El (fun b => S b ∧ b ≠ g) w => cmpW x.1.2 y.1.2) := by
    have e : (ltOf fun x y : El (fun b => S b ∧ b ≠ g) w => cmpW x.1.2 y.1.2) = fun x y => plLt x.1.2 y.1.2 := by
      funext x y
      exact cmpW_lt _ _
    rw [e]
    exact ⟨fun x => plLt_swo.irrefl _, fun x y z => plLt_swo.trans _ _ _, fun x y z => plLt_swo.ntrans _ _ _⟩
  have hC : CmpLays Tryz.prog 25 #[] (fun x : El (fun b => S b ∧ b ≠ g) w => x.1.1) 4 (fun x y => cmpW x.1.2 y.1.2) g 0 dl.toArray.size w := by
    intro m os dk hs x y
    obtain ⟨_, hk2, hk3⟩ := put_heap (n := m) (os := os) (F := flatK (fun x : El (fun b => S b ∧ b ≠ g) w => x.1.1) 4 dk) hh (by rw [size_flatK, hs, hsz, hcur]; exact hlc)
    have hsm : Same (fun b => S b ∧ b ≠ g) w (sortWorldK (fun x : El (fun b => S b ∧ b ≠ g) w => x.1.1) 4 w g 0 m dk os) := ⟨by rw [show (sortWorldK (fun x : El (fun b => S b ∧ b ≠ g) w => x.1.1) 4 w g 0 m dk os).heap.size = _ from hk3]; omega, fun b hb hlt => hk2 b hb.2 hlt⟩
    generalize sortWorldK (fun x : El (fun b => S b ∧ b ≠ g) w => x.1.1) 4 w g 0 m dk os = W at hsm ⊢
    obtain ⟨⟨cx, x⟩, A, a, B, b, C, c, hx, x1, x2, x3, _⟩ := x
    obtain ⟨⟨cy, y⟩, A', a', B', b', C', c', hy, y1, y2, y3, _⟩ := y
    dsimp only at hx hy
    subst hx hy
    exact compareW_ok W A B C A' B' C' x y a b c a' b' c' (x1.bsame hsm).bz (x2.bsame hsm).bz (y1.bsame hsm).bz (y2.bsame hsm).bz
  have eg : ∀ args w, (callFunc 25 args).run Tryz.prog w = .ok (.enter 25 args) w := enters_of Tryz.func25 (by kernel_rfl) rfl
  have hcon := AnyQ.slices_SortFunc Tryz.sortWr 4 Tryz.isAgg40 Tryz.sizeOf40 (fun x : El (fun b => S b ∧ b ≠ g) w => x.1.1) el_len el_one (fun x y => cmpW x.1.2 y.1.2) hO 25 #[] g 0 cap dl.toArray w eg hC hH hglt (by rw [hsz]; unfold big at hn; omega)
  rw [hsz] at hcon
  change Calls Tryz.prog 24 _ _ _ at hcon
  refine hcon.mono ?_
  rintro e w' ⟨he1, d', n, os, hp, hs, rfl⟩
  have hsd : d'.size = l.length := hp.1.trans hsz
  obtain ⟨⟨cur', hk1, hk1b, hk1c⟩, hk2, hk3⟩ := put_heap (n := n) (os := os) (F := flatK (fun x : El (fun b => S b ∧ b ≠ g) w => x.1.1) 4 d') hh (by rw [size_flatK, hsd, hcur]; exact hlc)
  have hperm : d'.toList.Perm dl := by
    have := hp.2.2
    rw [← hsd, Array.extract_size] at this
    rw [hsd, ← hsz, Array.extract_size] at this
    simpa using this
  refine ⟨he1, d'.toList.map (·.1.2), by rw [← hd2]; exact hperm.map _, ?_, ?_, ?_⟩
  · rw [List.pairwise_map, List.pairwise_iff_getElem]
    intro i j hi hj hij
    have := hs i j (Nat.zero_le _) hij (by simpa [hsd] using hj)
    rw [getElem!_pos d' i (by simpa using hi), getElem!_pos d' j (by simpa using hj)] at this
    rw [← cmpW_lt]
    simpa [ltOf, Array.getElem_toList] using this
  · have hl' : (d'.toList.map (·.1.2)).length = l.length := by simp [hsd]
    have hsm : Same (fun b => S b ∧ b ≠ g) w (sortWorldK (fun x : El (fun b => S b ∧ b ≠ g) w => x.1.1) 4 w g 0 n d' os) := ⟨by rw [show (sortWorldK (fun x : El (fun b => S b ∧ b ≠ g) w => x.1.1) 4 w g 0 n d' os).heap.size = _ from hk3]; omega, fun b hb hlt => hk2 b hb.2 hlt⟩
    rw [← hl']
    refine Own.mk_row (css := d'.toList.map (·.1.1)) (cur := cur') (fun c hc => ?_) ((Each.unpack d'.toList).mono fun c x hx => wrR_stays.same _ _ _ _ _ hsm hx) hbg hk1 (by rw [hl']; exact hcap) hmx (by rw [hk1b, hcur]) ?_ wrR_stays
    · obtain ⟨x, _, rfl⟩ := List.mem_map.1 hc
      exact el_len x
    · rw [hl']
      rw [size_flatK, hsd] at hk1c
      rw [hk1c, flatK_list el_len]
  · refine ⟨rfl, rfl, rfl, by rw [show (sortWorldK (fun x : El (fun b => S b ∧ b ≠ g) w => x.1.1) 4 w g 0 n d' os).heap.size = _ from hk3]; omega, fun b hb => hk2 b (by omega) (by omega)⟩
end Go.Proofs.YthohkgggodhbcaaGreat
