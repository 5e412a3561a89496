/- ChgL: Changes from one forest to another, in plain words: places that rise, each once, whose findings differ, are the changes put one by one where they belong. No program. The conditions of each are in its words. -/
import Derived.Test.YthohkgggodhbcaaGreatKForestW
namespace Go.Proofs.YthohkgggodhbcaaGreat
open Go.RowKit
set_option linter.unusedVariables false
set_option linter.unusedSimpArgs false

/-! ### lists that rise by an order -/
section
variable {α : Type} {r : α → α → Bool}
theorem rise_uniq (hi : ∀ a, r a a = false) (ht : ∀ a b c, r a b = true → r b c = true → r a c = true) : ∀ (l m : List α), l.Pairwise (fun a b => r a b = true) → m.Pairwise (fun a b => r a b = true) → (∀ x, x ∈ l ↔ x ∈ m) → l = m
  | [], [], _, _, _ => rfl
  | [], b :: m, _, _, h => absurd ((h b).2 (by simp)) (by simp)
  | a :: l, [], _, _, h => absurd ((h a).1 (by simp)) (by simp)
  | a :: l, b :: m, h1, h2, h => by
    obtain ⟨p1, p2⟩ := List.pairwise_cons.1 h1
    obtain ⟨q1, q2⟩ := List.pairwise_cons.1 h2
    have hab : a = b := by
      rcases List.mem_cons.1 ((h a).1 (by simp)) with e | e
      · exact e
      · rcases List.mem_cons.1 ((h b).2 (by simp)) with e2 | e2
        · exact e2.symm
        · have := ht _ _ _ (p1 b e2) (q1 a e)
          rw [hi] at this
          cases this
    subst hab
    rw [rise_uniq hi ht l m p2 q2 fun x => ⟨fun hx => ?_, fun hx => ?_⟩]
    · rcases List.mem_cons.1 ((h x).1 (by simp [hx])) with e | e
      · have := p1 x hx
        rw [e, hi] at this
        cases this
      · exact e
    · rcases List.mem_cons.1 ((h x).2 (by simp [hx])) with e | e
      · have := q1 x hx
        rw [e, hi] at this
        cases this
      · exact e
/-- One element among others that rise. -/
def insR (r : α → α → Bool) : List α → α → List α
  | [], w => [w]
  | x :: l, w => if r w x = true then w :: x :: l else x :: insR r l w
theorem insR_mem (w : α) : ∀ (l : List α) (x : α), x ∈ insR r l w ↔ x ∈ l ∨ x = w
  | [], x => by simp [insR]
  | y :: l, x => by
    unfold insR
    split
    · simp only [List.mem_cons]
      constructor
      · rintro (h | h | h)
        · exact .inr h
        · exact .inl (.inl h)
        · exact .inl (.inr h)
      · rintro ((h | h) | h)
        · exact .inr (.inl h)
        · exact .inr (.inr h)
        · exact .inl h
    · simp only [List.mem_cons, insR_mem w l x, or_assoc]
theorem insR_rise (ht : ∀ a b c, r a b = true → r b c = true → r a c = true) (w : α) : ∀ l : List α, l.Pairwise (fun a b => r a b = true) → (∀ x ∈ l, r w x = true ∨ r x w = true) → (insR r l w).Pairwise (fun a b => r a b = true)
  | [], _, _ => by simp [insR]
  | y :: l, h, hw => by
    obtain ⟨p1, p2⟩ := List.pairwise_cons.1 h
    unfold insR
    by_cases hy : r w y = true
    · rw [if_pos hy]
      refine List.pairwise_cons.2 ⟨fun x hx => ?_, h⟩
      rcases List.mem_cons.1 hx with e | e
      · rw [e]; exact hy
      · exact ht _ _ _ hy (p1 x e)
    · rw [if_neg hy]
      refine List.pairwise_cons.2 ⟨fun x hx => ?_, insR_rise ht w l p2 fun x hx => hw x (by simp [hx])⟩
      rcases (insR_mem w l x).1 hx with e | e
      · exact p1 x e
      · rw [e]; exact (hw y (by simp)).resolve_left hy
/-- All of them, one by one. -/
theorem insAll_rise (ht : ∀ a b c, r a b = true → r b c = true → r a c = true) : ∀ (ws l : List α), l.Pairwise (fun a b => r a b = true) → (∀ x ∈ l, ∀ w ∈ ws, r w x = true ∨ r x w = true) → ws.Pairwise (fun a b => r a b = true ∨ r b a = true) → (ws.foldl (insR r) l).Pairwise (fun a b => r a b = true) ∧ ∀ x, x ∈ ws.foldl (insR r) l ↔ x ∈ l ∨ x ∈ ws
  | [], l, h, _, _ => ⟨h, fun x => by simp⟩
  | w :: ws, l, h, hw, hp => by
    obtain ⟨p1, p2⟩ := List.pairwise_cons.1 hp
    obtain ⟨h1, h2⟩ := insAll_rise ht ws (insR r l w) (insR_rise ht w l h fun x hx => hw x hx w (by simp)) (fun x hx v hv => by
      rcases (insR_mem w l x).1 hx with e | e
      · exact hw x e v (by simp [hv])
      · rw [e]; exact (p1 v hv).symm) p2
    refine ⟨h1, fun x => ?_⟩
    rw [List.foldl_cons, h2, insR_mem, List.mem_cons]
    constructor
    · rintro ((h | h) | h)
      · exact .inl h
      · exact .inr (.inl h)
      · exact .inr (.inr h)
    · rintro (h | h | h)
      · exact .inl (.inl h)
      · exact .inl (.inr h)
      · exact .inr h
/-- Its steps, as the reference takes them. -/
def insStep (r : α → α → Bool) (w : α) (s : List α × Bool) (x : α) : List α × Bool := ((if (!s.2 && r w x) = true then s.1 ++ [w] else s.1) ++ [x], s.2 || r w x)
theorem ins_done (w : α) : ∀ (l acc : List α), l.foldl (insStep r w) (acc, true) = (acc ++ l, true)
  | [], acc => by simp
  | x :: l, acc => by
    rw [List.foldl_cons, show insStep r w (acc, true) x = (acc ++ [x], true) by simp [insStep], ins_done w l]
    simp
theorem ins_steps (w : α) : ∀ (l acc : List α), (if (l.foldl (insStep r w) (acc, false)).2 = true then (l.foldl (insStep r w) (acc, false)).1 else (l.foldl (insStep r w) (acc, false)).1 ++ [w]) = acc ++ insR r l w
  | [], acc => by simp [insR]
  | x :: l, acc => by
    rw [List.foldl_cons]
    cases h : r w x
    · rw [show insStep r w (acc, false) x = (acc ++ [x], false) by simp [insStep, h], ins_steps w l]
      simp [insR, h]
    · rw [show insStep r w (acc, false) x = (acc ++ [w] ++ [x], true) by simp [insStep, h], ins_done]
      simp [insR, h]
end
/-! ### places of forests -/
/-- The order of writes: by names, then by keys. -/
def plLt (x y : Wr) : Bool := lt x.name y.name || (x.name == y.name && lt x.key y.key)
theorem plLt_iff {x y : Wr} : plLt x y = true ↔ lt x.name y.name = true ∨ (x.name = y.name ∧ lt x.key y.key = true) := by simp [plLt]
theorem plLt_irrefl (x : Wr) : plLt x x = false := by simp [plLt, lt_irrefl]
theorem plLt_trans (x y z : Wr) (h1 : plLt x y = true) (h2 : plLt y z = true) : plLt x z = true := by
  rw [plLt_iff] at *
  rcases h1 with h1 | ⟨e1, h1⟩ <;> rcases h2 with h2 | ⟨e2, h2⟩
  · exact .inl (lt_trans _ _ _ h1 h2)
  · exact .inl (e2 ▸ h1)
  · exact .inl (e1 ▸ h2)
  · exact .inr ⟨e1.trans e2, lt_trans _ _ _ h1 h2⟩
theorem plLt_tri {x y : Wr} (h : x.name ≠ y.name ∨ x.key ≠ y.key) : plLt x y = true ∨ plLt y x = true := by
  rw [plLt_iff, plLt_iff]
  rcases Bool.eq_false_or_eq_true (lt x.name y.name) with h1 | h1
  · exact .inl (.inl h1)
  · rcases Bool.eq_false_or_eq_true (lt y.name x.name) with h2 | h2
    · exact .inr (.inl h2)
    · have e := lt_tri _ _ h1 h2
      have hk : x.key ≠ y.key := h.resolve_left fun q => q e
      rcases Bool.eq_false_or_eq_true (lt x.key y.key) with h3 | h3
      · exact .inl (.inr ⟨e, h3⟩)
      · rcases Bool.eq_false_or_eq_true (lt y.key x.key) with h4 | h4
        · exact .inr (.inr ⟨e.symm, h4⟩)
        · exact absurd (lt_tri _ _ h3 h4) hk
/-- A forest's pairs, with their tenants' names. -/
def flatP (f : List Tn) : List (List UInt8 × Pr) := f.flatMap fun t => t.2.map fun p => (t.1, p)
theorem flat_mem {f : List Tn} (h : Fine f) {n : List UInt8} {p : Pr} : (n, p) ∈ flatP f ↔ findVal (pairsOfS f n) p.1 = some p.2 := by
  obtain ⟨_, h2, h3⟩ := (ten_fault_iff f).1 h
  simp only [flatP, List.mem_flatMap, List.mem_map, Prod.mk.injEq]
  constructor
  · rintro ⟨t, ht, q, hq, rfl, rfl⟩
    obtain ⟨i, hi, rfl⟩ := List.getElem_of_mem ht
    have hf : f.find? (fun x => x.1 == f[i].1) = some f[i] := by
      rw [List.find?_eq_some_iff_getElem]
      refine ⟨by simp, i, hi, rfl, fun j hj => ?_⟩
      have hjl : j < f.length := by omega
      simp only [Bool.not_eq_true', beq_eq_false_iff_ne]
      intro e
      have := rise_inj h3 (i := j) (j := i) (by simpa [keys] using hjl) (by simpa [keys] using hi) (by rw [keys_at, keys_at]; exact e)
      omega
    have hp : pairsOfS f f[i].1 = f[i].2 := by unfold pairsOfS; rw [hf]; rfl
    rw [hp]
    obtain ⟨j, hj, rfl⟩ := List.getElem_of_mem hq
    exact findVal_at (pairs_fine (tenOne_fine.1 (h2 _ ht)).2.2).2.2 hj rfl
  · intro hv
    unfold findVal at hv
    rw [Option.map_eq_some_iff] at hv
    obtain ⟨q, hq, hq2⟩ := hv
    have hm := List.mem_of_find?_eq_some hq
    have hk : q.1 = p.1 := by simpa using List.find?_some hq
    unfold pairsOfS at hm
    cases hf : f.find? (fun x => x.1 == n) with
    | none => rw [hf] at hm; cases hm
    | some t =>
      rw [hf] at hm
      have ht : t.1 = n := by simpa using List.find?_some hf
      exact ⟨t, List.mem_of_find?_eq_some hf, q, hm, ht, Prod.ext hk hq2⟩
/-- What a forest tells of a place. -/
def tellS (f : List Tn) (n k : List UInt8) : Bool × List UInt8 := match findVal (pairsOfS f n) k with | some v => (true, v) | none => (false, [])
/-- A place's change; none where both tell the same. -/
def chgOne (a b : List Tn) (w : Wr) : Option Wr := if tellS a w.name w.key = tellS b w.name w.key then none else some ⟨w.name, w.key, !(tellS b w.name w.key).1, (tellS b w.name w.key).2⟩
/-- The changes, in the order in which the reference comes upon them. -/
def chgsR (a b : List Tn) : List Wr :=
  ((flatP b).filter fun q => findVal (pairsOfS a q.1) q.2.1 != some q.2.2).map (fun q => ⟨q.1, q.2.1, false, q.2.2⟩) ++ ((flatP a).filter fun q => (findVal (pairsOfS b q.1) q.2.1).isNone).map fun q => ⟨q.1, q.2.1, true, []⟩
def placesS (a b : List Tn) : List Wr := (flatP a ++ flatP b).map fun q => ⟨q.1, q.2.1, false, []⟩
theorem flat_rise {f : List Tn} (h : Fine f) : (flatP f).Pairwise fun p q => lt p.1 q.1 = true ∨ (p.1 = q.1 ∧ lt p.2.1 q.2.1 = true) := by
  obtain ⟨_, h2, h3⟩ := (ten_fault_iff f).1 h
  unfold flatP
  rw [List.pairwise_flatMap]
  refine ⟨fun t ht => ?_, ?_⟩
  · rw [List.pairwise_map]
    have hr := (rise_iff _).1 (pairs_fine (tenOne_fine.1 (h2 t ht)).2.2).2.2
    rw [List.pairwise_map] at hr
    exact hr.imp fun hxy => .inr ⟨rfl, hxy⟩
  · have hr := (rise_iff _).1 h3
    unfold keys at hr
    rw [List.pairwise_map] at hr
    refine hr.imp fun {t u} htu x hx y hy => ?_
    obtain ⟨p, _, rfl⟩ := List.mem_map.1 hx
    obtain ⟨q, _, rfl⟩ := List.mem_map.1 hy
    exact .inl htu
/-- A row that is sorted, each of its places once. -/
def compFrom (p : Wr) : List Wr → List Wr
  | [] => []
  | y :: l => if (p.name == y.name && p.key == y.key) = true then compFrom y l else y :: compFrom y l
def compS : List Wr → List Wr
  | [] => []
  | p :: l => p :: compFrom p l
/-- A place, and nothing else. -/
def Bare (x : Wr) : Prop := x.flag = false ∧ x.value = []
theorem comp_from : ∀ (l : List Wr) (p : Wr), (p :: l).Pairwise (fun x y => plLt y x = false) → (∀ x ∈ p :: l, Bare x) → (p :: compFrom p l).Pairwise (fun x y => plLt x y = true) ∧ ∀ x, x ∈ p :: compFrom p l ↔ x ∈ p :: l
  | [], p, _, _ => ⟨by simp [compFrom], fun x => by simp [compFrom]⟩
  | y :: l, p, h, hb => by
    obtain ⟨h1, h2⟩ := List.pairwise_cons.1 h
    obtain ⟨g1, g2⟩ := comp_from l y h2 fun x hx => hb x (by simp [hx])
    unfold compFrom
    by_cases hs : (p.name == y.name && p.key == y.key) = true
    · rw [if_pos hs]
      have e : p = y := by
        obtain ⟨e1, e2⟩ := hb p (by simp)
        obtain ⟨e3, e4⟩ := hb y (by simp)
        simp only [Bool.and_eq_true, beq_iff_eq] at hs
        obtain ⟨a1, a2, a3, a4⟩ := p
        obtain ⟨b1, b2, b3, b4⟩ := y
        dsimp only at *
        rw [hs.1, hs.2, e1, e2, e3, e4]
      rw [e]
      exact ⟨g1, fun x => by rw [g2]; simp⟩
    · rw [if_neg hs]
      have hpy : plLt p y = true := by
        have hn : p.name ≠ y.name ∨ p.key ≠ y.key := by
          rcases Decidable.em (p.name = y.name) with e | e
          · refine .inr fun e2 => hs ?_
            simp [e, e2]
          · exact .inl e
        have := h1 y (by simp)
        rcases plLt_tri hn with q | q
        · exact q
        · rw [q] at this; cases this
      refine ⟨List.pairwise_cons.2 ⟨fun x hx => ?_, g1⟩, fun x => by rw [List.mem_cons, g2, List.mem_cons (a := x) (b := p)]⟩
      rcases List.mem_cons.1 hx with e | e
      · rw [e]; exact hpy
      · exact plLt_trans _ _ _ hpy ((List.pairwise_cons.1 g1).1 x e)
theorem comp_rise {l : List Wr} (h : l.Pairwise fun x y => plLt y x = false) (hb : ∀ x ∈ l, Bare x) : (compS l).Pairwise (fun x y => plLt x y = true) ∧ ∀ x, x ∈ compS l ↔ x ∈ l := by
  cases l with
  | nil => exact ⟨List.Pairwise.nil, fun x => Iff.rfl⟩
  | cons p l => exact comp_from l p h hb
section
variable {a b : List Tn} (ha : Fine a) (hb : Fine b)
include ha hb
theorem chgs_mem {x : Wr} : x ∈ chgsR a b ↔ tellS a x.name x.key ≠ tellS b x.name x.key ∧ x.flag = !(tellS b x.name x.key).1 ∧ x.value = (tellS b x.name x.key).2 := by
  obtain ⟨n, k, g, v⟩ := x
  unfold chgsR tellS
  rw [List.mem_append, List.mem_map, List.mem_map]
  constructor
  · rintro (⟨⟨n', k', v'⟩, hq, he⟩ | ⟨⟨n', k', v'⟩, hq, he⟩)
    · injection he with e1 e2 e3 e4
      subst e1 e2 e3 e4
      obtain ⟨h1, h2⟩ := List.mem_filter.1 hq
      have h3 := (flat_mem hb).1 h1
      dsimp only at h2 h3 ⊢
      rw [h3]
      refine ⟨fun e => ?_, rfl, rfl⟩
      cases hv : findVal (pairsOfS a n') k' with
      | none => rw [hv] at e; cases e
      | some u =>
        rw [hv] at e h2
        injection e with _ e
        rw [e] at h2
        simp at h2
    · injection he with e1 e2 e3 e4
      subst e1 e2 e3 e4
      obtain ⟨h1, h2⟩ := List.mem_filter.1 hq
      have h3 := (flat_mem ha).1 h1
      have h4 : findVal (pairsOfS b n') k' = none := by simpa using h2
      dsimp only at h3 ⊢
      rw [h3, h4]
      exact ⟨fun e => (by cases e), rfl, rfl⟩
  · rintro ⟨h1, h2, h3⟩
    dsimp only at h1 h2 h3
    cases hv : findVal (pairsOfS b n) k with
    | some u =>
      rw [hv] at h1 h2 h3
      dsimp only at h1 h2 h3
      refine .inl ⟨(n, k, u), List.mem_filter.2 ⟨(flat_mem hb).2 hv, ?_⟩, ?_⟩
      · simp only [bne_iff_ne, ne_eq]
        intro e
        rw [e] at h1
        exact h1 rfl
      · rw [h2, h3]; rfl
    | none =>
      rw [hv] at h1 h2 h3
      dsimp only at h1 h2 h3
      cases hu : findVal (pairsOfS a n) k with
      | none => rw [hu] at h1; exact absurd rfl h1
      | some u =>
        refine .inr ⟨(n, k, u), List.mem_filter.2 ⟨(flat_mem ha).2 hu, ?_⟩, ?_⟩
        · show (findVal (pairsOfS b n) k).isNone = true
          rw [hv]; rfl
        · rw [h2, h3]; rfl
theorem place_told {n k : List UInt8} (h : tellS a n k ≠ tellS b n k) : (⟨n, k, false, []⟩ : Wr) ∈ placesS a b := by
  unfold placesS
  rw [List.mem_map]
  unfold tellS at h
  cases hv : findVal (pairsOfS b n) k with
  | some u => exact ⟨(n, k, u), List.mem_append.2 (.inr ((flat_mem hb).2 hv)), rfl⟩
  | none =>
    cases hu : findVal (pairsOfS a n) k with
    | some u => exact ⟨(n, k, u), List.mem_append.2 (.inl ((flat_mem ha).2 hu)), rfl⟩
    | none => rw [hv, hu] at h; exact absurd rfl h
theorem chgs_apart : (chgsR a b).Pairwise fun x y => plLt x y = true ∨ plLt y x = true := by
  unfold chgsR
  rw [List.pairwise_append]
  refine ⟨?_, ?_, fun x hx y hy => ?_⟩
  · rw [List.pairwise_map]
    exact ((flat_rise hb).filter _).imp fun h => .inl (plLt_iff.2 h)
  · rw [List.pairwise_map]
    exact ((flat_rise ha).filter _).imp fun h => .inl (plLt_iff.2 h)
  · obtain ⟨⟨n, k, v⟩, hq, rfl⟩ := List.mem_map.1 hx
    obtain ⟨⟨n', k', v'⟩, hq', rfl⟩ := List.mem_map.1 hy
    refine plLt_tri ?_
    have h1 := (flat_mem hb).1 (List.mem_filter.1 hq).1
    have h2 := (List.mem_filter.1 hq').2
    dsimp only at h1 h2 ⊢
    by_cases e : n = n'
    · refine .inr fun e2 => ?_
      rw [← e, ← e2, h1] at h2
      cases h2
    · exact .inl e
/-- Places that rise, each once: what changes of them is what the reference puts together. -/
theorem changes_eq {l : List Wr} (hl : l.Pairwise fun x y => plLt x y = true) (hm : ∀ x, x ∈ l ↔ x ∈ placesS a b) : l.filterMap (chgOne a b) = (chgsR a b).foldl (insR plLt) [] := by
  obtain ⟨h1, h2⟩ := insAll_rise (r := plLt) plLt_trans (chgsR a b) [] List.Pairwise.nil (fun x hx => by cases hx) (chgs_apart ha hb)
  have hone : ∀ {w x : Wr}, chgOne a b w = some x → x.name = w.name ∧ x.key = w.key := fun {w x} h => by
    unfold chgOne at h
    split at h
    · cases h
    · injection h with h; rw [← h]; exact ⟨rfl, rfl⟩
  refine rise_uniq plLt_irrefl plLt_trans _ _ ?_ h1 fun x => ?_
  · rw [List.pairwise_filterMap]
    refine hl.imp fun {x y} hxy u hu v hv => ?_
    obtain ⟨e1, e2⟩ := hone hu
    obtain ⟨e3, e4⟩ := hone hv
    rw [plLt_iff] at hxy ⊢
    rw [e1, e2, e3, e4]
    exact hxy
  · rw [h2, chgs_mem ha hb, List.mem_filterMap]
    constructor
    · rintro ⟨w, hw, he⟩
      unfold chgOne at he
      split at he
      · cases he
      · rename_i hne
        injection he with he
        rw [← he]
        exact .inr ⟨hne, rfl, rfl⟩
    · rintro (h | ⟨g1, g2, g3⟩)
      · cases h
      · refine ⟨⟨x.name, x.key, false, []⟩, (hm _).2 (place_told ha hb g1), ?_⟩
        unfold chgOne
        rw [if_neg g1]
        obtain ⟨n, k, g, v⟩ := x
        dsimp only at g2 g3 ⊢
        rw [g2, g3]
end
end Go.Proofs.YthohkgggodhbcaaGreat
