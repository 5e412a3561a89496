/- Trees: Rows of a call's own, chunk by chunk: what stays of them when chunks are written. Plain facts, no program. Walks: a key looked for among pairs. Walks: pairs copied by package tree; pairs held against each other. Walks: the value of a key among pairs. Walks: GetOf of the references. Walks: ranges of pairs. What a pair put among pairs comes to. Plain facts, no program. The conditions of each are in its words. -/
import Derived.Deep.RegionLaw
import Derived.Deep.MidRow
import Derived.Deep.QuietTactic
import Derived.Test.YtjidppcfjkjjoaaDoorKBase
namespace Go.Proofs.YtjidppcfjkjjoaaDoor
open Go.RowKit
set_option linter.unusedVariables false
set_option linter.unusedSimpArgs false

/-! ### quiet calls behind draws; a contract that leaves the world alone -/
theorem quiet_add_left {P : Program} {f : FuncId} {args : Array Value} {w : World} {a n : Nat} {v : Value}
    (h : Calls P f args (w.drewN (a + n)) fun e w' => e = .returned v ∧ w.drewN (a + n) = w') :
    Calls P f args (w.drewN (a + n)) fun e w'' => e = .returned v ∧ ∃ m, w'' = w.drewN (a + m) :=
  h.mono fun _ _ ⟨he, hm⟩ => ⟨he, n, hm.symm⟩
theorem quiet_left {P : Program} {f : FuncId} {args : Array Value} {w : World} {n : Nat} {v : Value}
    (h : Calls P f args (w.drewN n) fun e w' => e = .returned v ∧ w.drewN n = w') : Calls P f args (w.drewN n) fun e w'' => e = .returned v ∧ ∃ m, w'' = w.drewN m :=
  h.mono fun _ _ ⟨he, hm⟩ => ⟨he, n, hm.symm⟩

/-- Element by element. -/
def Each {α : Type} (R : List Value → α → Prop) : List (List Value) → List α → Prop
  | [], [] => True
  | c :: cs, x :: xs => R c x ∧ Each R cs xs
  | _, _ => False
section
variable {α : Type} {R R' : List Value → α → Prop}
theorem Each.length : ∀ {cs : List (List Value)} {l : List α}, Each R cs l → cs.length = l.length
  | [], [], _ => rfl
  | _ :: _, _ :: _, h => by simp [Each.length h.2]
  | [], _ :: _, h => h.elim
  | _ :: _, [], h => h.elim
theorem Each.mono (hm : ∀ c x, R c x → R' c x) : ∀ {cs : List (List Value)} {l : List α}, Each R cs l → Each R' cs l
  | [], [], _ => trivial
  | _ :: _, _ :: _, h => ⟨hm _ _ h.1, Each.mono hm h.2⟩
  | [], _ :: _, h => h.elim
  | _ :: _, [], h => h.elim
theorem Each.append {cs' : List (List Value)} {l' : List α} (h' : Each R cs' l') : ∀ {cs : List (List Value)} {l : List α}, Each R cs l → Each R (cs ++ cs') (l ++ l')
  | [], [], _ => h'
  | _ :: _, _ :: _, h => ⟨h.1, Each.append h' h.2⟩
  | [], _ :: _, h => h.elim
  | _ :: _, [], h => h.elim
theorem Each.take : ∀ (n : Nat) {cs : List (List Value)} {l : List α}, Each R cs l → Each R (cs.take n) (l.take n)
  | 0, _, _, _ => by simp [Each]
  | _ + 1, [], [], _ => trivial
  | n + 1, _ :: _, _ :: _, h => ⟨h.1, Each.take n h.2⟩
  | _ + 1, [], _ :: _, h => h.elim
  | _ + 1, _ :: _, [], h => h.elim
theorem Each.drop : ∀ (n : Nat) {cs : List (List Value)} {l : List α}, Each R cs l → Each R (cs.drop n) (l.drop n)
  | 0, _, _, h => h
  | _ + 1, [], [], _ => trivial
  | n + 1, _ :: _, _ :: _, h => Each.drop n h.2
  | _ + 1, [], _ :: _, h => h.elim
  | _ + 1, _ :: _, [], h => h.elim
theorem Each.one {c : List Value} {x : α} (h : R c x) : Each R [c] [x] := ⟨h, trivial⟩
theorem Each.set {c : List Value} {x : α} (hx : R c x) : ∀ (n : Nat) {cs : List (List Value)} {l : List α}, Each R cs l → Each R (cs.set n c) (l.set n x)
  | _, [], [], _ => trivial
  | 0, _ :: _, _ :: _, h => ⟨hx, h.2⟩
  | n + 1, _ :: _, _ :: _, h => ⟨h.1, Each.set hx n h.2⟩
  | _, [], _ :: _, h => h.elim
  | _, _ :: _, [], h => h.elim
theorem Each.get : ∀ {cs : List (List Value)} {l : List α}, Each R cs l → ∀ (i : Nat) (h1 : i < cs.length) (h2 : i < l.length), R cs[i] l[i]
  | [], [], _, i, h1, _ => absurd h1 (by simp)
  | _ :: _, _ :: _, h, 0, _, _ => h.1
  | _ :: _, _ :: _, h, i + 1, h1, h2 => Each.get h.2 i (by simpa using h1) (by simpa using h2)
  | [], _ :: _, h, _, _, _ => h.elim
  | _ :: _, [], h, _, _, _ => h.elim
theorem Each.of_get : ∀ {cs : List (List Value)} {l : List α}, cs.length = l.length → (∀ (i : Nat) (h1 : i < cs.length) (h2 : i < l.length), R cs[i] l[i]) → Each R cs l
  | [], [], _, _ => trivial
  | _ :: _, _ :: _, h, hg => ⟨hg 0 (by simp) (by simp), Each.of_get (by simpa using h) fun i h1 h2 => hg (i + 1) (by simpa using h1) (by simpa using h2)⟩
  | [], _ :: _, h, _ => by simp at h
  | _ :: _, [], h, _ => by simp at h
end

/-- Chunks of one size. -/
def Wide (size : Nat) (css : List (List Value)) : Prop := ∀ c ∈ css, c.length = size
section
variable {size : Nat} {css : List (List Value)}
theorem Wide.take (h : Wide size css) (i : Nat) : Wide size (css.take i) := fun c hc => h c (List.mem_of_mem_take hc)
theorem Wide.drop (h : Wide size css) (i : Nat) : Wide size (css.drop i) := fun c hc => h c (List.mem_of_mem_drop hc)
theorem Wide.append {css' : List (List Value)} (h : Wide size css) (h' : Wide size css') : Wide size (css ++ css') := fun c hc => by
  rcases List.mem_append.1 hc with hc | hc
  · exact h c hc
  · exact h' c hc
theorem Wide.one {c : List Value} (h : c.length = size) : Wide size [c] := fun c' hc => by simp at hc; rw [hc]; exact h
theorem flat_len : ∀ {css : List (List Value)}, Wide size css → css.flatten.length = css.length * size
  | [], _ => by simp
  | c :: r, h => by
    have ih := flat_len (css := r) (fun c' hc => h c' (List.mem_cons_of_mem _ hc))
    rw [List.flatten_cons, List.length_append, ih, h c (by simp), List.length_cons, Nat.add_mul, Nat.one_mul, Nat.add_comm]
theorem flat_take (h : Wide size css) (i : Nat) (hi : i ≤ css.length) : css.flatten.take (i * size) = (css.take i).flatten := by
  have e : css.flatten = (css.take i).flatten ++ (css.drop i).flatten := by rw [← List.flatten_append, List.take_append_drop]
  have hl : (css.take i).flatten.length = i * size := by rw [flat_len (h.take i), List.length_take, Nat.min_eq_left hi]
  rw [e, ← hl, List.take_left]
theorem flat_drop (h : Wide size css) (i : Nat) (hi : i ≤ css.length) : css.flatten.drop (i * size) = (css.drop i).flatten := by
  have e : css.flatten = (css.take i).flatten ++ (css.drop i).flatten := by rw [← List.flatten_append, List.take_append_drop]
  have hl : (css.take i).flatten.length = i * size := by rw [flat_len (h.take i), List.length_take, Nat.min_eq_left hi]
  rw [e, ← hl, List.drop_left]
theorem flat_at (h : Wide size css) (i : Nat) (hi : i < css.length) : (css.flatten.drop (i * size)).take size = css[i] := by
  rw [flat_drop h i (by omega), List.drop_eq_getElem_cons hi, List.flatten_cons]
  have hl : css[i].length = size := h _ (List.getElem_mem hi)
  rw [← hl, List.take_left]
theorem chunks_of : ∀ (n : Nat) (xs : List Value), xs.length = n * size → ∃ css : List (List Value), Wide size css ∧ css.length = n ∧ css.flatten = xs
  | 0, xs, h => ⟨[], fun c hc => by simp at hc, rfl, by have := List.eq_nil_of_length_eq_zero (by simpa using h : xs.length = 0); simp [this]⟩
  | n + 1, xs, h => by
    rw [Nat.add_mul, Nat.one_mul] at h
    obtain ⟨css, h1, h2, h3⟩ := chunks_of n (xs.drop size) (by rw [List.length_drop]; omega)
    refine ⟨xs.take size :: css, fun c hc => ?_, by simp [h2], by rw [List.flatten_cons, h3, List.take_append_drop]⟩
    rcases List.mem_cons.1 hc with rfl | hc
    · rw [List.length_take]; omega
    · exact h1 c hc
end
/-- A row of the call's own, chunk by chunk. -/
theorem Own.chunks {α : Type} {size : Nat} {R : (Nat → Prop) → World → List Value → α → Prop} {S : Nat → Prop} {w : World} {base : Nat} {e : TypeId} {v : Value} {l : List α} (h : Own size R S w base e v l) :
    ∃ css, Wide size css ∧ Each (R (fun b => S b ∧ v.ownBlock ≠ some b) w) css l ∧ w.ownsRow base e size v l.length css.flatten := by
  obtain ⟨xs, h1, h2⟩ := h
  obtain ⟨css, g1, g2, g3⟩ := chunks_of l.length xs h1.1
  refine ⟨css, g1, Each.of_get g2 fun i hi hi' => ?_, by rw [g3]; exact h1⟩
  have := h2 i hi'
  rw [← g3, flat_at g1 i hi] at this
  exact this
theorem Own.of_chunks {α : Type} {size : Nat} {R : (Nat → Prop) → World → List Value → α → Prop} {S : Nat → Prop} {w : World} {base : Nat} {e : TypeId} {v : Value} {l : List α} {css : List (List Value)}
    (h1 : Wide size css) (h2 : Each (R (fun b => S b ∧ v.ownBlock ≠ some b) w) css l) (h3 : w.ownsRow base e size v l.length css.flatten) : Own size R S w base e v l :=
  ⟨css.flatten, h3, fun i hi => by rw [flat_at h1 i (by rw [h2.length]; exact hi)]; exact h2.get i _ hi⟩
/-- .. in a block g that is known. -/
theorem Own.mk_row {α : Type} {size : Nat} {R : (Nat → Prop) → World → List Value → α → Prop} {S : Nat → Prop} {w : World} {base : Nat} {e : TypeId} {l : List α} {css : List (List Value)} {g cap : Nat} {cur : Array Value}
    (hw : Wide size css) (he : Each (R (fun b => S b ∧ b ≠ g) w) css l) (hg : base ≤ g) (hh : w.heap[g]? = some (.cells cur e (0, 0))) (hcap : l.length ≤ cap) (hmx : cap ≤ maxLen) (hcur : cur.size = cap * size) (ht : cur.toList.take (l.length * size) = css.flatten)
    (hR : Stays R) : Own size R S w base e (.slice (some ⟨g, 0, none⟩) l.length cap) l := by
  refine Own.of_chunks hw (he.mono fun c x hx => hR.less _ _ _ _ _ (fun b _ hs => ⟨hs.1, fun e => hs.2 (by simp [Value.ownBlock] at e; exact e.symm)⟩) hx) ⟨by rw [flat_len hw, he.length], .inr ⟨g, cap, cur, rfl, hg, hh, hcap, hmx, hcur, ht⟩⟩
/-- What a row that is not empty gives. -/
theorem Own.row {α : Type} {size : Nat} {R : (Nat → Prop) → World → List Value → α → Prop} {S : Nat → Prop} {w : World} {base : Nat} {e : TypeId} {v : Value} {l : List α} (hR : Stays R) (h : Own size R S w base e v l) (hl : 0 < l.length) :
    ∃ g cap cur css, v = .slice (some ⟨g, 0, none⟩) l.length cap ∧ base ≤ g ∧ g < w.heap.size ∧ w.heap[g]? = some (.cells cur e (0, 0)) ∧ l.length ≤ cap ∧ cap ≤ maxLen ∧ cur.size = cap * size ∧ cur.toList.take (l.length * size) = css.flatten ∧ Wide size css ∧ Each (R (fun b => S b ∧ b ≠ g) w) css l := by
  obtain ⟨css, h1, h2, h3⟩ := h.chunks
  rcases h3.2 with ⟨_, h0⟩ | ⟨g, cap, cur, rfl, hge, hh, hcap, hmx, hcur, ht⟩
  · omega
  · exact ⟨g, cap, cur, css, rfl, hge, (Array.getElem?_eq_some_iff.1 hh).1, hh, hcap, hmx, hcur, ht, h1, h2.mono fun c x hx => hR.less _ _ _ _ _ (fun b _ hs => ⟨hs.1, fun e => hs.2 (by simp [Value.ownBlock, e])⟩) hx⟩

theorem Same.setCells {S : Nat → Prop} {a : World} {g : Nat} (hg : ¬ S g) : ∀ (vs : List Value) (o : Nat) {w : World}, Same S a w → Same S a (w.setCells g o vs)
  | [], _, _, h => h
  | v :: r, o, _, h => Same.setCells hg r (o + 1) (h.setCell (p := ⟨g, o, none⟩) hg v)
theorem below_setCells' {B : Nat} {a : World} {g : Nat} (hb : B ≤ g) : ∀ (vs : List Value) (o : Nat) {w : World}, Below B a w → Below B a (w.setCells g o vs)
  | [], _, _, h => h
  | v :: r, o, _, h => below_setCells' hb r (o + 1) (h.setCell (p := ⟨g, o, none⟩) hb v)
theorem heap_setCells_row {g : Nat} {t : TypeId} : ∀ (vs : List Value) (o : Nat) (cur : Array Value) (w : World), w.heap[g]? = some (.cells cur t (0, 0)) → o + vs.length ≤ cur.size →
    (w.setCells g o vs).heap[g]? = some (.cells (cur.toList.take o ++ vs ++ cur.toList.drop (o + vs.length)).toArray t (0, 0))
  | [], o, cur, w, h, _ => by simpa [World.setCells] using h
  | v :: r, o, cur, w, h, hl => by
    have ih := heap_setCells_row r (o + 1) (cur.setIfInBounds o v) (w.setCell ⟨g, o, none⟩ v) (heap_setCell_same w g o cur t v h) (by simp at hl ⊢; omega)
    rw [World.setCells, ih]
    have e := list_seg_step cur.toList o v r (by simp at hl ⊢; omega)
    congr 3
    simpa [Array.toList_setIfInBounds, Nat.add_assoc, Nat.add_comm, Nat.add_left_comm] using e
/-- One chunk is written anew. -/
theorem Own.put {α : Type} {size : Nat} {R : (Nat → Prop) → World → List Value → α → Prop} {S : Nat → Prop} {w : World} {base : Nat} {e : TypeId} {l : List α} {g cap : Nat} (hR : Stays R) (h : Own size R S w base e (.slice (some ⟨g, 0, none⟩) l.length cap) l)
    {i : Nat} (hi : i < l.length) {c : List Value} (hc : c.length = size) {x : α} (hx : R (fun b => S b ∧ b ≠ g) w c x) : Own size R S (w.setCells g (i * size) c) base e (.slice (some ⟨g, 0, none⟩) l.length cap) (l.set i x) := by
  obtain ⟨g', cap', cur, css, hv, hg, hlt, hh, hcap, hmx, hcur, ht, hw, he⟩ := h.row hR (by omega)
  cases hv
  have hcl := he.length
  have hs : Same (fun b => S b ∧ b ≠ g) w (w.setCells g (i * size) c) := Same.setCells (by simp) _ _ (Same.refl _ _)
  have hil : (i + 1) * size ≤ l.length * size := Nat.mul_le_mul_right _ hi
  have hll : l.length * size ≤ cap * size := Nat.mul_le_mul_right _ hcap
  rw [Nat.add_mul, Nat.one_mul] at hil
  have hh' := heap_setCells_row c (i * size) cur w hh (by rw [hc]; omega)
  have hl' : (l.set i x).length = l.length := List.length_set
  rw [← hl']
  refine Own.mk_row (css := css.set i c) ?_ ((he.set hx i).mono fun c' x' hx' => hR.same _ _ _ _ _ hs hx') hg hh' (by rw [hl']; exact hcap) hmx ?_ ?_ hR
  · intro c' hc'
    rcases List.mem_or_eq_of_mem_set hc' with h1 | h1
    · exact hw c' h1
    · rw [h1]; exact hc
  · simp only [List.size_toArray, List.length_append, List.length_take, List.length_drop, Array.length_toList, hc]
    omega
  · rw [hl']
    have ecss : css.set i c = css.take i ++ c :: css.drop (i + 1) := List.set_eq_take_append_cons_drop.trans (by rw [if_pos (by omega)])
    have e1 : cur.toList.take (i * size) = (css.take i).flatten := by
      rw [← flat_take hw i (by omega), ← ht, List.take_take, Nat.min_eq_left (by omega)]
    have e2 : (cur.toList.drop (i * size + c.length)).take (l.length * size - (i * size + c.length)) = (css.drop (i + 1)).flatten := by
      rw [← flat_drop hw (i + 1) (by omega), ← ht, List.drop_take, hc, Nat.add_mul, Nat.one_mul]
    rw [ecss, List.flatten_append, List.flatten_cons, ← e1, ← e2, List.append_assoc, List.take_append, List.take_append]
    simp only [List.length_take, Array.length_toList]
    rw [List.take_take]
    congr 1
    · congr 1; omega
    · congr 1
      · rw [List.take_of_length_le (by rw [hc]; omega)]
      · congr 1; omega
end Go.Proofs.YtjidppcfjkjjoaaDoor
namespace Go.Proofs.YtjidppcfjkjjoaaDoor
open Go.RowKit
set_option linter.unusedVariables false
set_option linter.unusedSimpArgs false

def keys {β : Type} (l : List (List UInt8 × β)) : List (List UInt8) := l.map (·.1)
theorem keys_at {β : Type} (l : List (List UInt8 × β)) (k : Nat) (h : k < (keys l).length) : (keys l)[k] = (l[k]'(by simpa [keys] using h)).1 := by simp [keys]
/-- What the search answers: a place, and whether the key is there. -/
def RetFind (w : World) (ks : List (List UInt8)) (k : List UInt8) (e : Ending) (w' : World) : Prop :=
  ∃ i : Nat, e = .returned (.tuple #[.int .i64 i, .bool (decide (ks[i]? = some k))]) ∧ At ks k i ∧ Below w.heap.size w w'

end Go.Proofs.YtjidppcfjkjjoaaDoor
namespace Go.Proofs.YtjidppcfjkjjoaaDoor
open Go.RowKit
set_option linter.unusedVariables false
set_option linter.unusedSimpArgs false

end Go.Proofs.YtjidppcfjkjjoaaDoor
namespace Go.Proofs.YtjidppcfjkjjoaaDoor
open Go.RowKit
set_option linter.unusedVariables false
set_option linter.unusedSimpArgs false

def findVal (l : List Pr) (k : List UInt8) : Option (List UInt8) := (l.find? (·.1 == k)).map (·.2)
abbrev Finding := Bool × List UInt8
/-- What tree.Get and GetOf answer. -/
def getS (l : List Pr) (k : List UInt8) : Finding × Int :=
  if pairsFaultS l ≠ 0 then ((false, []), pairsFaultS l) else if keyFault k ≠ 0 then ((false, []), keyFault k) else
    match findVal l k with
    | some v => ((true, v), 0)
    | none => ((false, []), 0)
def RetGet (w : World) (r : Finding × Int) (e : Ending) (w' : World) : Prop :=
  ∃ A c, e = .returned (.tuple #[.agg #[.bool r.1.1, .slice A r.1.2.length c], .int .i64 r.2]) ∧ Bs (From w.heap.size) w' A r.1.2 ∧ Below w.heap.size w w'

theorem getS_pairs {l : List Pr} {k : List UInt8} (h : pairsFaultS l ≠ 0) : getS l k = ((false, []), pairsFaultS l) := by simp [getS, h]
theorem getS_key {l : List Pr} {k : List UInt8} (h : pairsFaultS l = 0) (h' : keyFault k ≠ 0) : getS l k = ((false, []), keyFault k) := by simp [getS, h, h']
theorem getS_found {l : List Pr} {k v : List UInt8} (h : pairsFaultS l = 0) (h' : keyFault k = 0) (hv : findVal l k = some v) : getS l k = ((true, v), 0) := by simp [getS, h, h', hv]
theorem getS_none {l : List Pr} {k : List UInt8} (h : pairsFaultS l = 0) (h' : keyFault k = 0) (hv : findVal l k = none) : getS l k = ((false, []), 0) := by simp [getS, h, h', hv]
theorem rise_inj {ks : List (List UInt8)} (hr : Rise ks) {i j : Nat} (hi : i < ks.length) (hj : j < ks.length) (h : ks[i] = ks[j]) : i = j := by
  rcases (by omega : i < j ∨ i = j ∨ j < i) with h1 | h1 | h1
  · have := hr i j h1 hj; rw [h, lt_irrefl] at this; cases this
  · exact h1
  · have := hr j i h1 hi; rw [h, lt_irrefl] at this; cases this
theorem findVal_at {l : List Pr} {k : List UInt8} (hr : Rise (keys l)) {i : Nat} (hi : i < l.length) (h : l[i].1 = k) : findVal l k = some l[i].2 := by
  have hf : (l.find? (·.1 == k)) = some l[i] := by
    rw [List.find?_eq_some_iff_getElem]
    refine ⟨by simpa using h, i, hi, rfl, fun j hj => ?_⟩
    have hjl : j < l.length := by omega
    simp only [Bool.not_eq_true', beq_eq_false_iff_ne]
    intro e
    have := rise_inj hr (i := j) (j := i) (by simpa [keys] using hjl) (by simpa [keys] using hi) (by rw [keys_at, keys_at, e, h])
    omega
  simp [findVal, hf]
theorem findVal_of_at {l : List Pr} {k : List UInt8} {i : Nat} (hr : Rise (keys l)) (hat : At (keys l) k i) (h : (keys l)[i]? ≠ some k) : findVal l k = none := by
  have hf : (l.find? (·.1 == k)) = none := by
    rw [List.find?_eq_none]
    intro p hp
    obtain ⟨j, hj, rfl⟩ := List.getElem_of_mem hp
    have hjk : j < (keys l).length := by simpa [keys] using hj
    simp only [beq_iff_eq]
    intro e
    have ek : (keys l)[j] = k := by rw [keys_at]; exact e
    rcases (by omega : j < i ∨ i ≤ j) with h1 | h1
    · have := hat.low j h1 hjk; rw [ek, lt_irrefl] at this; cases this
    · rcases (by omega : i = j ∨ i < j) with h2 | h2
      · subst h2
        exact h (by rw [List.getElem?_eq_getElem hjk, ek])
      · have h3 := hr i j h2 hjk
        rw [ek, hat.high i (Nat.le_refl _) (by omega)] at h3
        cases h3
  simp [findVal, hf]

end Go.Proofs.YtjidppcfjkjjoaaDoor
namespace Go.Proofs.YtjidppcfjkjjoaaDoor
open Go.RowKit
set_option linter.unusedVariables false
set_option linter.unusedSimpArgs false

def pkFault (l : List Pr) (k : List UInt8) : Int := if pairsFaultS l ≠ 0 then pairsFaultS l else keyFault k
theorem getS_bad {l : List Pr} {k : List UInt8} (h : pkFault l k ≠ 0) : getS l k = ((false, []), pkFault l k) := by
  unfold pkFault at *
  by_cases h1 : pairsFaultS l = 0
  · rw [if_neg (by simpa using h1)] at h ⊢
    exact getS_key h1 h
  · rw [if_pos h1] at h ⊢
    exact getS_pairs h1
theorem pk_fine {l : List Pr} {k : List UInt8} (h : pkFault l k = 0) : pairsFaultS l = 0 ∧ keyFault k = 0 := by
  unfold pkFault at h
  split at h
  · rename_i h1; exact absurd h h1
  · rename_i h1; exact ⟨by simpa using h1, h⟩
theorem findVal_next {l : List Pr} {k : List UInt8} {m : Nat} (hm : m < l.length) (h : (l[m].1 == k) = false) : findVal (l.drop m) k = findVal (l.drop (m + 1)) k := by
  rw [List.drop_eq_getElem_cons hm]
  simp only [findVal, List.find?_cons, h]
theorem findVal_here {l : List Pr} {k : List UInt8} {m : Nat} (hm : m < l.length) (h : (l[m].1 == k) = true) : findVal (l.drop m) k = some l[m].2 := by
  rw [List.drop_eq_getElem_cons hm]
  simp only [findVal, List.find?_cons, h, Option.map_some]

end Go.Proofs.YtjidppcfjkjjoaaDoor
namespace Go.Proofs.YtjidppcfjkjjoaaDoor
open Go.RowKit
set_option linter.unusedVariables false
set_option linter.unusedSimpArgs false

def inRange (f t : List UInt8) (p : Pr) : Bool := !lt p.1 f && !lt t p.1
/-- What Range and RangeOf answer. -/
def rangeFault (l : List Pr) (f t : List UInt8) : Int := if pairsFaultS l ≠ 0 then pairsFaultS l else if keyFault f ≠ 0 then keyFault f else keyFault t
def rangeS (l : List Pr) (f t : List UInt8) : List Pr × Int := if rangeFault l f t ≠ 0 then ([], rangeFault l f t) else (l.filter (inRange f t), 0)
/-- The call returns pairs and a number. -/
def RetPE (w : World) (r : List Pr × Int) (e : Ending) (w' : World) : Prop :=
  ∃ A c, e = .returned (.tuple #[.slice A r.1.length c, .int .i64 r.2]) ∧ r.1.length ≤ c ∧ Ps (From w.heap.size) w' A r.1 ∧ Below w.heap.size w w'
theorem filter_snoc {l : List Pr} {q : Pr → Bool} {k : Nat} (h : k < l.length) : (l.take (k + 1)).filter q = (l.take k).filter q ++ (if q l[k] then [l[k]] else []) := by
  rw [take_snoc l k h, List.filter_append]
  cases hq : q l[k] <;> simp [List.filter_cons, hq]

theorem filter_mid {α : Type} (q : α → Bool) : ∀ (l : List α) (a b : Nat), (∀ j (h : j < l.length), q l[j] = decide (a ≤ j ∧ j < b)) → l.filter q = (l.drop a).take (b - a)
  | [], a, b, _ => by simp
  | x :: l, a, b, h => by
    have h0 : q x = decide (a ≤ 0 ∧ 0 < b) := h 0 (by simp)
    have ih := filter_mid q l (a - 1) (b - 1) (fun j hj => by
      have := h (j + 1) (by simpa using hj)
      simp only [List.getElem_cons_succ] at this
      rw [this]
      exact decide_eq_decide.2 (by omega))
    rcases a with _ | a
    · rcases b with _ | b
      · have hq : q x = false := by rw [h0]; simp
        simp only [List.filter_cons, hq]
        simpa using ih
      · have hq : q x = true := by rw [h0]; simp
        simp only [List.filter_cons, hq, if_true]
        simpa using ih
    · have hq : q x = false := by rw [h0]; simp
      simp only [List.filter_cons, hq]
      rcases b with _ | b
      · simpa using ih
      · simpa using ih
theorem range_mid {l : List Pr} {f t : List UInt8} {i k k' : Nat} (hr : Rise (keys l)) (hi : At (keys l) f i) (hk : At (keys l) t k) (h' : k' = if (keys l)[k]? = some t then k + 1 else k) :
    l.filter (inRange f t) = (l.drop i).take (max i k' - i) := by
  have key : ∀ j (h : j < l.length), inRange f t l[j] = decide (i ≤ j ∧ j < k') := by
    intro j hj
    have hjk : j < (keys l).length := by simpa [keys] using hj
    have e : l[j].1 = (keys l)[j] := (keys_at l j hjk).symm
    unfold inRange
    rw [e]
    have h1 : (!lt (keys l)[j] f) = decide (i ≤ j) := by
      by_cases h : i ≤ j
      · rw [hi.high j h hjk]; simp [h]
      · rw [hi.low j (by omega) hjk]; simp [h]
    have h2 : (!lt t (keys l)[j]) = decide (j < k') := by
      by_cases h : j < k
      · rw [lt_asymm _ _ (hk.low j h hjk)]
        have : j < k' := by rw [h']; split <;> omega
        simp [this]
      · have h3 := hk.high j (by omega) hjk
        by_cases h4 : (keys l)[j] = t
        · have hkj : j = k := by
            rcases (by omega : j = k ∨ k < j) with h5 | h5
            · exact h5
            · have h6 := hr k j h5 hjk
              rw [h4, hk.high k (Nat.le_refl _) (by omega)] at h6
              cases h6
          subst hkj
          have : j < k' := by rw [h', if_pos (by rw [List.getElem?_eq_getElem hjk, h4])]; omega
          rw [h4, lt_irrefl]
          simp [this]
        · have h5 : lt t (keys l)[j] = true := by
            rcases Bool.eq_false_or_eq_true (lt t (keys l)[j]) with h6 | h6
            · exact h6
            · exact absurd (lt_tri _ _ h3 h6) h4
          have : ¬ j < k' := by
            rw [h']
            split
            · rename_i hs
              intro hlt
              have : j = k := by omega
              subst this
              rw [List.getElem?_eq_getElem hjk] at hs
              exact h4 (Option.some.inj hs)
            · exact h
          rw [h5]
          simp [this]
    rw [h1, h2, ← Bool.decide_and]
  rw [filter_mid _ l i k' key]
  congr 1
  omega
/-- A piece of a slice. -/
theorem SL.cut {α : Type} {size : Nat} {R : (Nat → Prop) → World → List Value → α → Prop} {S : Nat → Prop} {w : World} {b off : Nat} {l : List α} (h : SL size R S w (some ⟨b, off, none⟩) l) (i m : Nat) :
    SL size R S w (some ⟨b, off + i * size, none⟩) ((l.drop i).take m) := by
  intro hl
  have hln : 0 < l.length := by rw [List.length_take, List.length_drop] at hl; omega
  obtain ⟨b', off', e, h0, hlt, hi⟩ := h hln
  cases e
  refine ⟨b, off + i * size, rfl, h0, hlt, fun j hj => ?_⟩
  have hj' : i + j < l.length := by rw [List.length_take, List.length_drop] at hj; omega
  obtain ⟨cs, h1, h2, h3⟩ := hi (i + j) hj'
  refine ⟨cs, h1, fun n hn => ?_, ?_⟩
  · rw [← h2 n hn]
    congr 2
    rw [Nat.add_mul]
    omega
  · rw [List.getElem_take, List.getElem_drop]
    exact h3

theorem sub_ok {α : Type} {size : Nat} {R : (Nat → Prop) → World → List Value → α → Prop} {S : Nat → Prop} {w : World} {A : Option Addr} {l : List α} (h : SL size R S w A l) (i n : Nat) : SL size R S w (Option.map (fun x => x.add (i * size)) A) ((l.drop i).take n) := by
  intro hl
  obtain ⟨b, off, e, _⟩ := h (by rw [List.length_take, List.length_drop] at hl; omega)
  subst e
  have := h.cut i n hl
  rw [Option.map_some, add_at]
  exact this
end Go.Proofs.YtjidppcfjkjjoaaDoor
namespace Go.Proofs.YtjidppcfjkjjoaaDoor
open Go.RowKit
set_option linter.unusedVariables false
set_option linter.unusedSimpArgs false

section
variable {β : Type}
/-- One round of PutOf: what has come out, and whether the pair is among it. -/
def putStep (p : List UInt8 × β) (s : List (List UInt8 × β) × Bool) (x : List UInt8 × β) : List (List UInt8 × β) × Bool :=
  let s1 := if !s.2 && !lt x.1 p.1 then (s.1 ++ [p], true) else s
  if x.1 == p.1 then s1 else (s1.1 ++ [x], s1.2)
def putFold (p : List UInt8 × β) (l : List (List UInt8 × β)) : List (List UInt8 × β) × Bool := l.foldl (putStep p) ([], false)
def putAll (p : List UInt8 × β) (l : List (List UInt8 × β)) : List (List UInt8 × β) := if (putFold p l).2 then (putFold p l).1 else (putFold p l).1 ++ [p]
theorem putFold_snoc {p : List UInt8 × β} {l : List (List UInt8 × β)} {k : Nat} (h : k < l.length) : putFold p (l.take (k + 1)) = putStep p (putFold p (l.take k)) l[k] := by
  unfold putFold
  rw [take_snoc l k h, List.foldl_append]
  rfl
theorem putStep_len (p : List UInt8 × β) (s : List (List UInt8 × β) × Bool) (x : List UInt8 × β) : (putStep p s x).1.length ≤ s.1.length + 2 := by
  unfold putStep
  by_cases h1 : (!s.2 && !lt x.1 p.1) = true <;> by_cases h2 : (x.1 == p.1) = true <;> simp [h1, h2]
theorem putFold_len (p : List UInt8 × β) (l : List (List UInt8 × β)) : ∀ k, k ≤ l.length → (putFold p (l.take k)).1.length ≤ 2 * k
  | 0, _ => by simp [putFold]
  | k + 1, h => by
    rw [putFold_snoc (by omega)]
    have := putStep_len p (putFold p (l.take k)) l[k]
    have := putFold_len p l k (by omega)
    omega
theorem putAll_len (p : List UInt8 × β) (l : List (List UInt8 × β)) : (putAll p l).length ≤ 2 * l.length + 1 := by
  have h := putFold_len p l l.length (Nat.le_refl _)
  rw [List.take_length] at h
  unfold putAll
  split
  · omega
  · rw [List.length_append, List.length_singleton]; omega
theorem fold_low {p : List UInt8 × β} : ∀ (xs acc : List (List UInt8 × β)), (∀ x ∈ xs, lt x.1 p.1 = true) → xs.foldl (putStep p) (acc, false) = (acc ++ xs, false)
  | [], acc, _ => by simp
  | x :: xs, acc, h => by
    have h1 := h x (by simp)
    have h2 : (x.1 == p.1) = false := by
      rw [beq_eq_false_iff_ne]
      intro e
      rw [e, lt_irrefl] at h1
      cases h1
    rw [List.foldl_cons, show putStep p (acc, false) x = (acc ++ [x], false) by simp [putStep, h1, h2], fold_low xs (acc ++ [x]) fun y hy => h y (by simp [hy])]
    simp
theorem fold_done {p : List UInt8 × β} : ∀ (xs acc : List (List UInt8 × β)), (∀ x ∈ xs, (x.1 == p.1) = false) → xs.foldl (putStep p) (acc, true) = (acc ++ xs, true)
  | [], acc, _ => by simp
  | x :: xs, acc, h => by
    have h2 := h x (by simp)
    rw [List.foldl_cons, show putStep p (acc, true) x = (acc ++ [x], true) by simp [putStep, h2], fold_done xs (acc ++ [x]) fun y hy => h y (by simp [hy])]
    simp
theorem mem_take_at {l : List (List UInt8 × β)} {i : Nat} {x : List UInt8 × β} (h : x ∈ l.take i) : ∃ j, ∃ hj : j < l.length, j < i ∧ l[j] = x := by
  obtain ⟨j, hj, rfl⟩ := List.mem_iff_getElem.1 h
  rw [List.length_take] at hj
  exact ⟨j, by omega, by omega, by rw [List.getElem_take]⟩
theorem mem_drop_at {l : List (List UInt8 × β)} {i : Nat} {x : List UInt8 × β} (h : x ∈ l.drop i) : ∃ j, ∃ hj : j < l.length, i ≤ j ∧ l[j] = x := by
  obtain ⟨j, hj, rfl⟩ := List.mem_iff_getElem.1 h
  rw [List.length_drop] at hj
  exact ⟨i + j, by omega, by omega, by rw [List.getElem_drop]⟩
theorem putFold_split (p : List UInt8 × β) (l : List (List UInt8 × β)) (i : Nat) (hlow : ∀ j (_ : j < i) (h : j < (keys l).length), lt (keys l)[j] p.1 = true) : putFold p l = (l.drop i).foldl (putStep p) (l.take i, false) := by
  have e : putFold p l = (l.take i ++ l.drop i).foldl (putStep p) ([], false) := by rw [List.take_append_drop]; rfl
  rw [e, List.foldl_append, fold_low (l.take i) [] fun x hx => by
    obtain ⟨j, hj, hji, rfl⟩ := mem_take_at hx
    have := hlow j hji (by simpa [keys] using hj)
    rwa [keys_at] at this]
  simp
/-- The key is there: its pair is put anew. -/
theorem putAll_set {p : List UInt8 × β} {l : List (List UInt8 × β)} {i : Nat} (hr : Rise (keys l)) (hi : i < l.length) (hk : l[i].1 = p.1) : putAll p l = l.set i p := by
  have hlow : ∀ j (_ : j < i) (h : j < (keys l).length), lt (keys l)[j] p.1 = true := fun j hj h => by
    have := hr j i hj (by simpa [keys] using hi)
    rw [keys_at l i, hk] at this
    exact this
  have h1 : putStep p (l.take i, false) l[i] = (l.take i ++ [p], true) := by simp [putStep, hk, lt_irrefl]
  have hf : putFold p l = (l.take i ++ [p] ++ l.drop (i + 1), true) := by
    rw [putFold_split p l i hlow, List.drop_eq_getElem_cons hi, List.foldl_cons, h1]
    refine fold_done _ _ fun x hx => ?_
    obtain ⟨j, hj, hij, rfl⟩ := mem_drop_at hx
    rw [beq_eq_false_iff_ne]
    intro e
    have := rise_inj hr (i := j) (j := i) (by simpa [keys] using hj) (by simpa [keys] using hi) (by rw [keys_at, keys_at, e, hk])
    omega
  unfold putAll
  rw [hf, List.set_eq_take_append_cons_drop, if_pos hi]
  simp
/-- A pair among others, at i. -/
def ins {α : Type} (l : List α) (i : Nat) (x : α) : List α := l.take i ++ x :: l.drop i
/-- The key is not there: its pair comes in between. -/
theorem putAll_ins {p : List UInt8 × β} {l : List (List UInt8 × β)} {i : Nat} (hr : Rise (keys l)) (hat : At (keys l) p.1 i) (hk : (keys l)[i]? ≠ some p.1) : putAll p l = ins l i p := by
  have hne : ∀ j (hj : j < l.length), i ≤ j → (l[j].1 == p.1) = false := fun j hj hij => by
    have hjk : j < (keys l).length := by simpa [keys] using hj
    rw [beq_eq_false_iff_ne]
    intro e
    have ek : (keys l)[j] = p.1 := by rw [keys_at]; exact e
    rcases (by omega : i = j ∨ i < j) with h2 | h2
    · subst h2
      exact hk (by rw [List.getElem?_eq_getElem hjk, ek])
    · have h3 := hr i j h2 hjk
      rw [ek, hat.high i (Nat.le_refl _) (by omega)] at h3
      cases h3
  unfold putAll ins
  rw [putFold_split p l i hat.low]
  rcases Nat.lt_or_ge i l.length with hi | hi
  · have hlt : lt l[i].1 p.1 = false := by
      have := hat.high i (Nat.le_refl _) (by simpa [keys] using hi)
      rwa [keys_at] at this
    have h1 : putStep p (l.take i, false) l[i] = (l.take i ++ [p] ++ [l[i]], true) := by simp [putStep, hlt, hne i hi (Nat.le_refl _)]
    have hf : (l.drop i).foldl (putStep p) (l.take i, false) = (l.take i ++ [p] ++ l.drop i, true) := by
      rw [List.drop_eq_getElem_cons hi, List.foldl_cons, h1, fold_done _ _ fun x hx => ?_]
      · simp
      · obtain ⟨j, hj, hij, rfl⟩ := mem_drop_at hx
        exact hne j hj (by omega)
    rw [hf]
    simp
  · rw [List.drop_eq_nil_of_le hi]
    simp
theorem ins_len {α : Type} (l : List α) (i : Nat) (x : α) : (ins l i x).length = l.length + 1 := by
  unfold ins
  rw [List.length_append, List.length_cons, List.length_take, List.length_drop]
  omega
end
def ppFault (l : List Pr) (p : Pr) : Int := if pairsFaultS l ≠ 0 then pairsFaultS l else pairFaultS p
def putS (l : List Pr) (p : Pr) : List Pr × Int := if ppFault l p ≠ 0 then ([], ppFault l p) else if 60 < (putAll p l).length then ([], 11) else (putAll p l, 0)
theorem pp_fine {l : List Pr} {p : Pr} (h : ppFault l p = 0) : pairsFaultS l = 0 ∧ pairFaultS p = 0 := by
  unfold ppFault at h
  split at h
  · rename_i h1; exact absurd h h1
  · rename_i h1; exact ⟨by simpa using h1, h⟩
end Go.Proofs.YtjidppcfjkjjoaaDoor
