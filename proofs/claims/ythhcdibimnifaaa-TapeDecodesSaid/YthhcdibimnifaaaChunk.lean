/- Rows of a call's own, chunk by chunk: what stays of them when chunks are written. Plain facts, no program. -/
import Derived.Test.YthhcdibimnifaaaCore
import Derived.Deep.RegionLaw
import Derived.Deep.MidRow
import Derived.Deep.QuietTactic
namespace Go.Proofs.Ythhcdibimnifaaa
open Go.RowKit
set_option linter.unusedVariables false
set_option linter.unusedSimpArgs false

/-! ### quiet calls behind draws; a contract that leaves the world alone -/
theorem quiet_add_left {P : Program} {f : FuncId} {args : Array Value} {w : World} {a n : Nat} {v : Value}
    (h : Calls P f args (w.drewN (a + n)) fun e w' => e = .returned v ∧ w.drewN (a + n) = w') :
    Calls P f args (w.drewN (a + n)) fun e w'' => e = .returned v ∧ ∃ m, w'' = w.drewN (a + m) :=
  h.mono fun _ _ ⟨he, hm⟩ => ⟨he, n, hm.symm⟩
theorem quiet_left {P : Program} {f : FuncId} {args : Array Value} {w : World} {n : Nat} {v : Value}
    (h : Calls P f args (w.drewN n) fun e w' => e = .returned v ∧ w.drewN n = w') : Calls P f args (w.drewN n) fun e w'' => e = .returned v ∧ ∃ m, w'' = w.drewN m :=
  h.mono fun _ _ ⟨he, hm⟩ => ⟨he, n, hm.symm⟩

/-- Element by element. -/
def Each {α : Type} (R : List Value → α → Prop) : List (List Value) → List α → Prop
  | [], [] => True
  | c :: cs, x :: xs => R c x ∧ Each R cs xs
  | _, _ => False
section
variable {α : Type} {R R' : List Value → α → Prop}
theorem Each.length : ∀ {cs : List (List Value)} {l : List α}, Each R cs l → cs.length = l.length
  | [], [], _ => rfl
  | _ :: _, _ :: _, h => by simp [Each.length h.2]
  | [], _ :: _, h => h.elim
  | _ :: _, [], h => h.elim
theorem Each.mono (hm : ∀ c x, R c x → R' c x) : ∀ {cs : List (List Value)} {l : List α}, Each R cs l → Each R' cs l
  | [], [], _ => trivial
  | _ :: _, _ :: _, h => ⟨hm _ _ h.1, Each.mono hm h.2⟩
  | [], _ :: _, h => h.elim
  | _ :: _, [], h => h.elim
theorem Each.append {cs' : List (List Value)} {l' : List α} (h' : Each R cs' l') : ∀ {cs : List (List Value)} {l : List α}, Each R cs l → Each R (cs ++ cs') (l ++ l')
  | [], [], _ => h'
  | _ :: _, _ :: _, h => ⟨h.1, Each.append h' h.2⟩
  | [], _ :: _, h => h.elim
  | _ :: _, [], h => h.elim
theorem Each.take : ∀ (n : Nat) {cs : List (List Value)} {l : List α}, Each R cs l → Each R (cs.take n) (l.take n)
  | 0, _, _, _ => by simp [Each]
  | _ + 1, [], [], _ => trivial
  | n + 1, _ :: _, _ :: _, h => ⟨h.1, Each.take n h.2⟩
  | _ + 1, [], _ :: _, h => h.elim
  | _ + 1, _ :: _, [], h => h.elim
theorem Each.drop : ∀ (n : Nat) {cs : List (List Value)} {l : List α}, Each R cs l → Each R (cs.drop n) (l.drop n)
  | 0, _, _, h => h
  | _ + 1, [], [], _ => trivial
  | n + 1, _ :: _, _ :: _, h => Each.drop n h.2
  | _ + 1, [], _ :: _, h => h.elim
  | _ + 1, _ :: _, [], h => h.elim
theorem Each.one {c : List Value} {x : α} (h : R c x) : Each R [c] [x] := ⟨h, trivial⟩
theorem Each.set {c : List Value} {x : α} (hx : R c x) : ∀ (n : Nat) {cs : List (List Value)} {l : List α}, Each R cs l → Each R (cs.set n c) (l.set n x)
  | _, [], [], _ => trivial
  | 0, _ :: _, _ :: _, h => ⟨hx, h.2⟩
  | n + 1, _ :: _, _ :: _, h => ⟨h.1, Each.set hx n h.2⟩
  | _, [], _ :: _, h => h.elim
  | _, _ :: _, [], h => h.elim
theorem Each.get : ∀ {cs : List (List Value)} {l : List α}, Each R cs l → ∀ (i : Nat) (h1 : i < cs.length) (h2 : i < l.length), R cs[i] l[i]
  | [], [], _, i, h1, _ => absurd h1 (by simp)
  | _ :: _, _ :: _, h, 0, _, _ => h.1
  | _ :: _, _ :: _, h, i + 1, h1, h2 => Each.get h.2 i (by simpa using h1) (by simpa using h2)
  | [], _ :: _, h, _, _, _ => h.elim
  | _ :: _, [], h, _, _, _ => h.elim
theorem Each.of_get : ∀ {cs : List (List Value)} {l : List α}, cs.length = l.length → (∀ (i : Nat) (h1 : i < cs.length) (h2 : i < l.length), R cs[i] l[i]) → Each R cs l
  | [], [], _, _ => trivial
  | _ :: _, _ :: _, h, hg => ⟨hg 0 (by simp) (by simp), Each.of_get (by simpa using h) fun i h1 h2 => hg (i + 1) (by simpa using h1) (by simpa using h2)⟩
  | [], _ :: _, h, _ => by simp at h
  | _ :: _, [], h, _ => by simp at h
end

/-- Chunks of one size. -/
def Wide (size : Nat) (css : List (List Value)) : Prop := ∀ c ∈ css, c.length = size
section
variable {size : Nat} {css : List (List Value)}
theorem Wide.take (h : Wide size css) (i : Nat) : Wide size (css.take i) := fun c hc => h c (List.mem_of_mem_take hc)
theorem Wide.drop (h : Wide size css) (i : Nat) : Wide size (css.drop i) := fun c hc => h c (List.mem_of_mem_drop hc)
theorem Wide.append {css' : List (List Value)} (h : Wide size css) (h' : Wide size css') : Wide size (css ++ css') := fun c hc => by
  rcases List.mem_append.1 hc with hc | hc
  · exact h c hc
  · exact h' c hc
theorem Wide.one {c : List Value} (h : c.length = size) : Wide size [c] := fun c' hc => by simp at hc; rw [hc]; exact h
theorem flat_len : ∀ {css : List (List Value)}, Wide size css → css.flatten.length = css.length * size
  | [], _ => by simp
  | c :: r, h => by
    have ih := flat_len (css := r) (fun c' hc => h c' (List.mem_cons_of_mem _ hc))
    rw [List.flatten_cons, List.length_append, ih, h c (by simp), List.length_cons, Nat.add_mul, Nat.one_mul, Nat.add_comm]
theorem flat_take (h : Wide size css) (i : Nat) (hi : i ≤ css.length) : css.flatten.take (i * size) = (css.take i).flatten := by
  have e : css.flatten = (css.take i).flatten ++ (css.drop i).flatten := by rw [← List.flatten_append, List.take_append_drop]
  have hl : (css.take i).flatten.length = i * size := by rw [flat_len (h.take i), List.length_take, Nat.min_eq_left hi]
  rw [e, ← hl, List.take_left]
theorem flat_drop (h : Wide size css) (i : Nat) (hi : i ≤ css.length) : css.flatten.drop (i * size) = (css.drop i).flatten := by
  have e : css.flatten = (css.take i).flatten ++ (css.drop i).flatten := by rw [← List.flatten_append, List.take_append_drop]
  have hl : (css.take i).flatten.length = i * size := by rw [flat_len (h.take i), List.length_take, Nat.min_eq_left hi]
  rw [e, ← hl, List.drop_left]
theorem flat_at (h : Wide size css) (i : Nat) (hi : i < css.length) : (css.flatten.drop (i * size)).take size = css[i] := by
  rw [flat_drop h i (by omega), List.drop_eq_getElem_cons hi, List.flatten_cons]
  have hl : css[i].length = size := h _ (List.getElem_mem hi)
  rw [← hl, List.take_left]
theorem chunks_of : ∀ (n : Nat) (xs : List Value), xs.length = n * size → ∃ css : List (List Value), Wide size css ∧ css.length = n ∧ css.flatten = xs
  | 0, xs, h => ⟨[], fun c hc => by simp at hc, rfl, by have := List.eq_nil_of_length_eq_zero (by simpa using h : xs.length = 0); simp [this]⟩
  | n + 1, xs, h => by
    rw [Nat.add_mul, Nat.one_mul] at h
    obtain ⟨css, h1, h2, h3⟩ := chunks_of n (xs.drop size) (by rw [List.length_drop]; omega)
    refine ⟨xs.take size :: css, fun c hc => ?_, by simp [h2], by rw [List.flatten_cons, h3, List.take_append_drop]⟩
    rcases List.mem_cons.1 hc with rfl | hc
    · rw [List.length_take]; omega
    · exact h1 c hc
end
/-- A row of the call's own, chunk by chunk. -/
theorem Own.chunks {α : Type} {size : Nat} {R : (Nat → Prop) → World → List Value → α → Prop} {S : Nat → Prop} {w : World} {base : Nat} {e : TypeId} {v : Value} {l : List α} (h : Own size R S w base e v l) :
    ∃ css, Wide size css ∧ Each (R (fun b => S b ∧ v.ownBlock ≠ some b) w) css l ∧ w.ownsRow base e size v l.length css.flatten := by
  obtain ⟨xs, h1, h2⟩ := h
  obtain ⟨css, g1, g2, g3⟩ := chunks_of l.length xs h1.1
  refine ⟨css, g1, Each.of_get g2 fun i hi hi' => ?_, by rw [g3]; exact h1⟩
  have := h2 i hi'
  rw [← g3, flat_at g1 i hi] at this
  exact this
theorem Own.of_chunks {α : Type} {size : Nat} {R : (Nat → Prop) → World → List Value → α → Prop} {S : Nat → Prop} {w : World} {base : Nat} {e : TypeId} {v : Value} {l : List α} {css : List (List Value)}
    (h1 : Wide size css) (h2 : Each (R (fun b => S b ∧ v.ownBlock ≠ some b) w) css l) (h3 : w.ownsRow base e size v l.length css.flatten) : Own size R S w base e v l :=
  ⟨css.flatten, h3, fun i hi => by rw [flat_at h1 i (by rw [h2.length]; exact hi)]; exact h2.get i _ hi⟩
/-- .. in a block g that is known. -/
theorem Own.mk_row {α : Type} {size : Nat} {R : (Nat → Prop) → World → List Value → α → Prop} {S : Nat → Prop} {w : World} {base : Nat} {e : TypeId} {l : List α} {css : List (List Value)} {g cap : Nat} {cur : Array Value}
    (hw : Wide size css) (he : Each (R (fun b => S b ∧ b ≠ g) w) css l) (hg : base ≤ g) (hh : w.heap[g]? = some (.cells cur e (0, 0))) (hcap : l.length ≤ cap) (hmx : cap ≤ maxLen) (hcur : cur.size = cap * size) (ht : cur.toList.take (l.length * size) = css.flatten)
    (hR : Stays R) : Own size R S w base e (.slice (some ⟨g, 0, none⟩) l.length cap) l := by
  refine Own.of_chunks hw (he.mono fun c x hx => hR.less _ _ _ _ _ (fun b _ hs => ⟨hs.1, fun e => hs.2 (by simp [Value.ownBlock] at e; exact e.symm)⟩) hx) ⟨by rw [flat_len hw, he.length], .inr ⟨g, cap, cur, rfl, hg, hh, hcap, hmx, hcur, ht⟩⟩
/-- What a row that is not empty gives. -/
theorem Own.row {α : Type} {size : Nat} {R : (Nat → Prop) → World → List Value → α → Prop} {S : Nat → Prop} {w : World} {base : Nat} {e : TypeId} {v : Value} {l : List α} (hR : Stays R) (h : Own size R S w base e v l) (hl : 0 < l.length) :
    ∃ g cap cur css, v = .slice (some ⟨g, 0, none⟩) l.length cap ∧ base ≤ g ∧ g < w.heap.size ∧ w.heap[g]? = some (.cells cur e (0, 0)) ∧ l.length ≤ cap ∧ cap ≤ maxLen ∧ cur.size = cap * size ∧ cur.toList.take (l.length * size) = css.flatten ∧ Wide size css ∧ Each (R (fun b => S b ∧ b ≠ g) w) css l := by
  obtain ⟨css, h1, h2, h3⟩ := h.chunks
  rcases h3.2 with ⟨_, h0⟩ | ⟨g, cap, cur, rfl, hge, hh, hcap, hmx, hcur, ht⟩
  · omega
  · exact ⟨g, cap, cur, css, rfl, hge, (Array.getElem?_eq_some_iff.1 hh).1, hh, hcap, hmx, hcur, ht, h1, h2.mono fun c x hx => hR.less _ _ _ _ _ (fun b _ hs => ⟨hs.1, fun e => hs.2 (by simp [Value.ownBlock, e])⟩) hx⟩

theorem Same.setCells {S : Nat → Prop} {a : World} {g : Nat} (hg : ¬ S g) : ∀ (vs : List Value) (o : Nat) {w : World}, Same S a w → Same S a (w.setCells g o vs)
  | [], _, _, h => h
  | v :: r, o, _, h => Same.setCells hg r (o + 1) (h.setCell (p := ⟨g, o, none⟩) hg v)
theorem below_setCells' {B : Nat} {a : World} {g : Nat} (hb : B ≤ g) : ∀ (vs : List Value) (o : Nat) {w : World}, Below B a w → Below B a (w.setCells g o vs)
  | [], _, _, h => h
  | v :: r, o, _, h => below_setCells' hb r (o + 1) (h.setCell (p := ⟨g, o, none⟩) hb v)
theorem heap_setCells_row {g : Nat} {t : TypeId} : ∀ (vs : List Value) (o : Nat) (cur : Array Value) (w : World), w.heap[g]? = some (.cells cur t (0, 0)) → o + vs.length ≤ cur.size →
    (w.setCells g o vs).heap[g]? = some (.cells (cur.toList.take o ++ vs ++ cur.toList.drop (o + vs.length)).toArray t (0, 0))
  | [], o, cur, w, h, _ => by simpa [World.setCells] using h
  | v :: r, o, cur, w, h, hl => by
    have ih := heap_setCells_row r (o + 1) (cur.setIfInBounds o v) (w.setCell ⟨g, o, none⟩ v) (heap_setCell_same w g o cur t v h) (by simp at hl ⊢; omega)
    rw [World.setCells, ih]
    have e := list_seg_step cur.toList o v r (by simp at hl ⊢; omega)
    congr 3
    simpa [Array.toList_setIfInBounds, Nat.add_assoc, Nat.add_comm, Nat.add_left_comm] using e
/-- One chunk is written anew. -/
theorem Own.put {α : Type} {size : Nat} {R : (Nat → Prop) → World → List Value → α → Prop} {S : Nat → Prop} {w : World} {base : Nat} {e : TypeId} {l : List α} {g cap : Nat} (hR : Stays R) (h : Own size R S w base e (.slice (some ⟨g, 0, none⟩) l.length cap) l)
    {i : Nat} (hi : i < l.length) {c : List Value} (hc : c.length = size) {x : α} (hx : R (fun b => S b ∧ b ≠ g) w c x) : Own size R S (w.setCells g (i * size) c) base e (.slice (some ⟨g, 0, none⟩) l.length cap) (l.set i x) := by
  obtain ⟨g', cap', cur, css, hv, hg, hlt, hh, hcap, hmx, hcur, ht, hw, he⟩ := h.row hR (by omega)
  cases hv
  have hcl := he.length
  have hs : Same (fun b => S b ∧ b ≠ g) w (w.setCells g (i * size) c) := Same.setCells (by simp) _ _ (Same.refl _ _)
  have hil : (i + 1) * size ≤ l.length * size := Nat.mul_le_mul_right _ hi
  have hll : l.length * size ≤ cap * size := Nat.mul_le_mul_right _ hcap
  rw [Nat.add_mul, Nat.one_mul] at hil
  have hh' := heap_setCells_row c (i * size) cur w hh (by rw [hc]; omega)
  have hl' : (l.set i x).length = l.length := List.length_set
  rw [← hl']
  refine Own.mk_row (css := css.set i c) ?_ ((he.set hx i).mono fun c' x' hx' => hR.same _ _ _ _ _ hs hx') hg hh' (by rw [hl']; exact hcap) hmx ?_ ?_ hR
  · intro c' hc'
    rcases List.mem_or_eq_of_mem_set hc' with h1 | h1
    · exact hw c' h1
    · rw [h1]; exact hc
  · simp only [List.size_toArray, List.length_append, List.length_take, List.length_drop, Array.length_toList, hc]
    omega
  · rw [hl']
    have ecss : css.set i c = css.take i ++ c :: css.drop (i + 1) := List.set_eq_take_append_cons_drop.trans (by rw [if_pos (by omega)])
    have e1 : cur.toList.take (i * size) = (css.take i).flatten := by
      rw [← flat_take hw i (by omega), ← ht, List.take_take, Nat.min_eq_left (by omega)]
    have e2 : (cur.toList.drop (i * size + c.length)).take (l.length * size - (i * size + c.length)) = (css.drop (i + 1)).flatten := by
      rw [← flat_drop hw (i + 1) (by omega), ← ht, List.drop_take, hc, Nat.add_mul, Nat.one_mul]
    rw [ecss, List.flatten_append, List.flatten_cons, ← e1, ← e2, List.append_assoc, List.take_append, List.take_append]
    simp only [List.length_take, Array.length_toList]
    rw [List.take_take]
    congr 1
    · congr 1; omega
    · congr 1
      · rw [List.take_of_length_le (by rw [hc]; omega)]
      · congr 1; omega
end Go.Proofs.Ythhcdibimnifaaa
