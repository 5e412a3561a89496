/- ChgC: Walks: cmp.Or at two numbers, history.compare and the closure of places: what they answer; they draw and lay blocks, nothing else. Its law: a strict weak order. The conditions of each are in its words. -/
import Derived.BigQuiet
import Derived.Deep.CutRange
import Derived.Sort.Statements
import Derived.Sort.Grow
import Derived.Test.YthohkgggodhbcaaGreatKChgL
import Derived.Test.YthohkgggodhbcaaGreatKForestW
import Derived.Test.YthohkgggodhbcaaGreatKBase
namespace Go.Proofs.YthohkgggodhbcaaGreat
open Go.RowKit Go.Sort
set_option linter.unusedVariables false
set_option linter.unusedSimpArgs false

/-- A world that lies behind another one: draws, and blocks laid behind. -/
def Grw (w w' : World) : Prop := ∃ q os, w' = grow (w.drewN q) os
theorem Grw.refl (w : World) : Grw w w := ⟨0, #[], by rw [grow_empty]; rfl⟩
theorem Grw.alloc {w w' : World} (h : Grw w w') (o : Obj) : Grw w (w'.alloc o) := by
  obtain ⟨q, os, rfl⟩ := h
  exact ⟨q, os ++ #[o], by rw [alloc_eq_grow, grow_grow]⟩
theorem Grw.drewN {w w' : World} (h : Grw w w') (n : Nat) : Grw w (w'.drewN n) := by
  obtain ⟨q, os, rfl⟩ := h
  exact ⟨q + n, os, by rw [← World.drewN_drewN]; rfl⟩
theorem Grw.drew {w w' : World} (h : Grw w w') : Grw w w'.drew := h.drewN 1
theorem Grw.trans {w w' w'' : World} (h : Grw w w') (k : Grw w' w'') : Grw w w'' := by
  obtain ⟨q, os, rfl⟩ := h
  obtain ⟨q', os', rfl⟩ := k
  exact ⟨q + q', os ++ os', by rw [← grow_grow, ← World.drewN_drewN]; rfl⟩
theorem Grw.below {w w' : World} (h : Grw w w') : Below w.heap.size w w' := by
  obtain ⟨q, os, rfl⟩ := h
  refine ⟨rfl, rfl, rfl, by simp [grow], fun k hk => ?_⟩
  simp only [grow]
  exact Array.getElem?_append_left hk
theorem two_newC (w : World) (a b : Obj) : ((w.alloc a).alloc b).heap[w.heap.size]? = some a ∧ ((w.alloc a).alloc b).heap[w.heap.size + 1]? = some b ∧ Below w.heap.size w ((w.alloc a).alloc b) :=
  ⟨(heap_alloc_old _ _ (by simp)).trans (heap_alloc_new _ _), by have := heap_alloc_new (w.alloc a) b; simpa using this, ((Below.refl _ _).alloc (Nat.le_refl _) _).alloc (by simp) _⟩
theorem two_cell0 (W : World) (u v : Value) (t : TypeId) : (W.alloc (.cells #[u, v] t)).drew.cell? ⟨W.heap.size, 0, none⟩ = some u := box_cell (cs := [u, v]) (box_new W _ t) 0
theorem two_cell1 (W : World) (u v : Value) (t : TypeId) : (W.alloc (.cells #[u, v] t)).drew.cell? ⟨W.heap.size, 1, none⟩ = some v := box_cell (cs := [u, v]) (box_new W _ t) 1
theorem own_slice {α : Type} {size : Nat} {R : (Nat → Prop) → World → List Value → α → Prop} {S : Nat → Prop} {w : World} {base : Nat} {e : TypeId} {v : Value} {l : List α} (h : Own size R S w base e v l) : ∃ p c, v = .slice p l.length c := by
  obtain ⟨xs, h1, _⟩ := h
  rcases h1.2 with ⟨e, h0⟩ | ⟨g, cap, cur, e, _⟩
  · exact ⟨none, 0, by rw [e, h0]⟩
  · exact ⟨_, _, e⟩
/-- The first that is not 0. -/
def orI (a b : Int) : Int := if a ≠ 0 then a else b
set_option maxRecDepth 100000 in
set_option maxHeartbeats 1000000 in
theorem or2_ok (w : World) (g : Nat) (a b : Int) (h0 : w.cell? ⟨g, 0, none⟩ = some (.int .i64 a)) (h1 : w.cell? ⟨g, 1, none⟩ = some (.int .i64 b)) :
    Calls Tryz.prog 42 #[.slice (some ⟨g, 0, none⟩) 2 2] w fun e w' => e = .returned (.int .i64 (orI a b)) ∧ w = w' := by
  go_enter Tryz.func42, Tryz.ntmps42
  go_wp2
  by_cases ha : a = 0
  · subst ha
    by_cases hb : b = 0
    · subst hb
      refine wp_loop_rounds 3 ?_
      rw [rounds_succ]
      go_wp2
      rw [rounds_succ]
      go_wp2
      rw [rounds_succ]
      go_wp2
      go_ret
      exact ⟨rfl, rfl⟩
    · have hb' : (b != 0) = true := by simpa using hb
      refine wp_loop_rounds 2 ?_
      rw [rounds_succ]
      go_wp2
      rw [rounds_succ]
      go_wp2
      go_ret
      exact ⟨by simp [orI], rfl⟩
  · have ha' : (a != 0) = true := by simpa using ha
    refine wp_loop_rounds 1 ?_
    rw [rounds_succ]
    go_wp2
    go_ret
    exact ⟨by simp [orI, ha], rfl⟩
/-- What compare answers. -/
def cmpW (x y : Wr) : Int := orI (cmp3 x.name y.name) (cmp3 x.key y.key)
theorem cmpW_lt (x y : Wr) : decide (cmpW x y < 0) = plLt x y := by
  unfold cmpW orI plLt cmp3
  by_cases h1 : lt x.name y.name = true
  · simp [h1]
  · have h1' : lt x.name y.name = false := by simpa using h1
    by_cases h2 : x.name = y.name
    · rw [h2, lt_irrefl]
      by_cases h3 : lt x.key y.key = true
      · simp [h3]
      · have h3' : lt x.key y.key = false := by simpa using h3
        by_cases h4 : x.key = y.key
        · rw [h4, lt_irrefl]
          simp
        · simp [h3', h4]
    · simp [h1', h2]
theorem cmpW_zero (x y : Wr) : (cmpW x y == 0) = (x.name == y.name && x.key == y.key) := by
  unfold cmpW orI
  have h1 := cmp3_zero x.name y.name
  have h2 := cmp3_zero x.key y.key
  by_cases h : cmp3 x.name y.name = 0
  · have e : (x.name == y.name) = true := by rw [← h1, h]; rfl
    rw [if_neg (by simpa using h), h2, e]
    rfl
  · have e : (x.name == y.name) = false := by rw [← h1]; simpa using h
    rw [if_pos h, e]
    simpa using h
theorem plLt_swo : SWO plLt where
  irrefl := plLt_irrefl
  trans := plLt_trans
  ntrans x y z h1 h2 := by
    rcases Bool.eq_false_or_eq_true (plLt x z) with h | h
    · exfalso
      by_cases e : y.name = z.name ∧ y.key = z.key
      · have : plLt x z = plLt x y := by unfold plLt; rw [e.1, e.2]
        rw [this, h1] at h
        cases h
      · have hn : y.name ≠ z.name ∨ y.key ≠ z.key := by
          rcases Decidable.em (y.name = z.name) with q | q
          · exact .inr fun q2 => e ⟨q, q2⟩
          · exact .inl q
        rcases plLt_tri hn with q | q
        · rw [h2] at q; cases q
        · have := plLt_trans _ _ _ h q
          rw [h1] at this
          cases this
    · exact h
set_option maxRecDepth 100000 in
set_option maxHeartbeats 4000000 in
theorem compareW_ok (w : World) (A B C A' B' C' : Option Addr) (x y : Wr) (a b c a' b' c' : Nat) (h1 : Bs All w A x.name) (h2 : Bs All w B x.key) (h3 : Bs All w A' y.name) (h4 : Bs All w B' y.key) :
    Calls Tryz.prog 25 #[.agg #[.slice A x.name.length a, .slice B x.key.length b, .bool x.flag, .slice C x.value.length c], .agg #[.slice A' y.name.length a', .slice B' y.key.length b', .bool y.flag, .slice C' y.value.length c']] w fun e w' => e = .returned (.int .i64 (cmpW x y)) ∧ Grw w w' := by
  obtain ⟨t1, t2, t4⟩ := two_newC w (.cells #[.slice A x.name.length a, .slice B x.key.length b, .bool x.flag, .slice C x.value.length c] 40) (.cells #[.slice A' y.name.length a', .slice B' y.key.length b', .bool y.flag, .slice C' y.value.length c'] 40)
  have hg : Grw w ((w.alloc (.cells #[.slice A x.name.length a, .slice B x.key.length b, .bool x.flag, .slice C x.value.length c] 40)).alloc (.cells #[.slice A' y.name.length a', .slice B' y.key.length b', .bool y.flag, .slice C' y.value.length c'] 40)) := ((Grw.refl _).alloc _).alloc _
  have H1 := Lib.hid (h1.bbelow t4)
  have H2 := Lib.hid (h2.bbelow t4)
  have H3 := Lib.hid (h3.bbelow t4)
  have H4 := Lib.hid (h4.bbelow t4)
  have Hg := Lib.hid hg
  clear h1 h2 h3 h4 hg
  go_enter Tryz.func25, Tryz.ntmps25
  go_upto_region 1 with fail
  obtain ⟨W, hW⟩ : ∃ W, W = (w.alloc (.cells #[.slice A x.name.length a, .slice B x.key.length b, .bool x.flag, .slice C x.value.length c] 40)).alloc (.cells #[.slice A' y.name.length a', .slice B' y.key.length b', .bool y.flag, .slice C' y.value.length c'] 40) := ⟨_, rfl⟩
  rw [← hW] at t1 t2 H1 H2 H3 H4 Hg ⊢
  have g0 := box_cell t1 0
  have g1 := box_cell t1 1
  have k0 := box_cell t2 0
  have k1 := box_cell t2 1
  simp only [List.getElem?_cons_zero, List.getElem?_cons_succ] at g0 g1 k0 k1
  clear t1 t2 t4 hW
  go_region_held3 (fun w' => w'.cell? ⟨w.heap.size, 0, none⟩ = some (.slice A x.name.length a) ∧ w'.cell? ⟨w.heap.size, 1, none⟩ = some (.slice B x.key.length b) ∧ w'.cell? ⟨w.heap.size + 1, 0, none⟩ = some (.slice A' y.name.length a') ∧ w'.cell? ⟨w.heap.size + 1, 1, none⟩ = some (.slice B' y.key.length b'))
    (go_keep)
    (first
      | (go_at_call_of 43 A; (with_reducible refine (bytesCompare_ok _ A A' x.name y.name a a' ?hx ?hy).mono ?_); (case hx => exact H1.out.bsame (by repeat' (first | exact Same.refl _ _ | assumption | refine Same.drew ?_ | refine Same.drewN ?_ _ | refine Same.alloc ?_ _ | refine Same.setCell ?_ (fun hq => by simp only [From] at hq; first | omega | (simp at hq; done) | (simp at hq; omega)) _))); (case hy => exact H3.out.bsame (by repeat' (first | exact Same.refl _ _ | assumption | refine Same.drew ?_ | refine Same.drewN ?_ _ | refine Same.alloc ?_ _ | refine Same.setCell ?_ (fun hq => by simp only [From] at hq; first | omega | (simp at hq; done) | (simp at hq; omega)) _))); rintro e w2 ⟨rfl, rfl⟩)
      | (go_at_call_of 43 B; (with_reducible refine (bytesCompare_ok _ B B' x.key y.key b b' ?hx ?hy).mono ?_); (case hx => exact H2.out.bsame (by repeat' (first | exact Same.refl _ _ | assumption | refine Same.drew ?_ | refine Same.drewN ?_ _ | refine Same.alloc ?_ _ | refine Same.setCell ?_ (fun hq => by simp only [From] at hq; first | omega | (simp at hq; done) | (simp at hq; omega)) _))); (case hy => exact H4.out.bsame (by repeat' (first | exact Same.refl _ _ | assumption | refine Same.drew ?_ | refine Same.drewN ?_ _ | refine Same.alloc ?_ _ | refine Same.setCell ?_ (fun hq => by simp only [From] at hq; first | omega | (simp at hq; done) | (simp at hq; omega)) _))); rintro e w2 ⟨rfl, rfl⟩)
      | (go_at_call 42; (with_reducible refine (or2_ok _ W.heap.size (cmp3 x.name y.name) (cmp3 x.key y.key) ?hx ?hy).mono ?_); (case hx => exact two_cell0 _ _ _ _); (case hy => exact two_cell1 _ _ _ _); rintro e w2 ⟨rfl, rfl⟩))
  all_goals
    go_wp2
    go_ret
    exact ⟨rfl, (Hg.out.drew).alloc _⟩
set_option maxRecDepth 100000 in
set_option maxHeartbeats 2000000 in
/-- The closure of places: are two writes of one place? -/
theorem samePlace_ok (w : World) (A B C A' B' C' : Option Addr) (x y : Wr) (a b c a' b' c' : Nat) (h1 : Bs All w A x.name) (h2 : Bs All w B x.key) (h3 : Bs All w A' y.name) (h4 : Bs All w B' y.key) :
    Calls Tryz.prog 27 #[.agg #[.slice A x.name.length a, .slice B x.key.length b, .bool x.flag, .slice C x.value.length c], .agg #[.slice A' y.name.length a', .slice B' y.key.length b', .bool y.flag, .slice C' y.value.length c']] w fun e w' => e = .returned (.bool (x.name == y.name && x.key == y.key)) ∧ Grw w w' := by
  obtain ⟨t1, t2, t4⟩ := two_newC w (.cells #[.slice A x.name.length a, .slice B x.key.length b, .bool x.flag, .slice C x.value.length c] 40) (.cells #[.slice A' y.name.length a', .slice B' y.key.length b', .bool y.flag, .slice C' y.value.length c'] 40)
  have hg : Grw w ((w.alloc (.cells #[.slice A x.name.length a, .slice B x.key.length b, .bool x.flag, .slice C x.value.length c] 40)).alloc (.cells #[.slice A' y.name.length a', .slice B' y.key.length b', .bool y.flag, .slice C' y.value.length c'] 40)) := ((Grw.refl _).alloc _).alloc _
  have H1 := Lib.hid (h1.bbelow t4)
  have H2 := Lib.hid (h2.bbelow t4)
  have H3 := Lib.hid (h3.bbelow t4)
  have H4 := Lib.hid (h4.bbelow t4)
  have Hg := Lib.hid hg
  have Hz := Lib.hid (cmpW_zero x y)
  clear h1 h2 h3 h4 hg
  go_enter Tryz.func27, Tryz.ntmps27
  go_upto_region 1 with fail
  obtain ⟨W, hW⟩ : ∃ W, W = (w.alloc (.cells #[.slice A x.name.length a, .slice B x.key.length b, .bool x.flag, .slice C x.value.length c] 40)).alloc (.cells #[.slice A' y.name.length a', .slice B' y.key.length b', .bool y.flag, .slice C' y.value.length c'] 40) := ⟨_, rfl⟩
  rw [← hW] at t1 t2 H1 H2 H3 H4 Hg ⊢
  obtain ⟨g0, g1, g2, g3, _⟩ := box4 t1
  obtain ⟨k0, k1, k2, k3, _⟩ := box4 t2
  clear t1 t2 t4 hW
  go_wp2_with (go_at_call 25; (with_reducible refine (compareW_ok _ A B C A' B' C' x y a b c a' b' c' H1.out H2.out H3.out H4.out).mono ?_); rintro e w2 ⟨rfl, hg2⟩)
  go_ret
  exact ⟨ret_bool Hz.out, Hg.out.trans hg2⟩
end Go.Proofs.YthohkgggodhbcaaGreat
