/- Ver: The iterator slices.Backward over a proof's steps: its contract. No condition but the steps' memory. Walks: proof.up and digestUp. The proof may be. Walks: digestUp, proof.Verify and Verified; the law ProofVerifies. The law ProofVerifies: its walk. The conditions of each are in its words. -/
import Derived.RangeFuncNested
import Derived.RangeFuncBound
import Derived.RangeFuncCalls
import Derived.RangeFuncLeaves
import Derived.RangeFuncBox
import Derived.Shelf.Abstract
import Derived.Shelf.RegionOpen
import Derived.OwnWalkIn
import Derived.TacticsInMore
import Derived.LoopNIn
import Derived.LoopIn
import Derived.Test.YteacjkihjeiafaaDoorKPf
import Derived.Test.YteacjkihjeiafaaDoorKRootR
import Derived.Test.YteacjkihjeiafaaDoorKPv
import Derived.Test.YteacjkihjeiafaaDoorKBase
import Derived.Test.YteacjkihjeiafaaDoorKTrees
namespace Go.Proofs.YteacjkihjeiafaaDoor
open Go.RowKit Go.Shelf
set_option linter.unusedVariables false
set_option linter.unusedSimpArgs false
attribute [local go_sem] Oper.semAt_some

theorem alloc_oldB (w : World) (o : Obj) {r : Nat} (h : r < w.heap.size) : (w.alloc o).heap[r]? = w.heap[r]? := by
  show (w.heap.push o)[r]? = _
  rw [Array.getElem?_push_lt h, Array.getElem?_eq_getElem h]
theorem alloc_newB (w : World) (o : Obj) : (w.alloc o).heap[w.heap.size]? = some o := by
  show (w.heap.push o)[w.heap.size]? = some o
  simp
/-- The steps, the last one first, by their numbers. -/
def backs (n : Nat) : List (Fin n) := (List.finRange n).reverse
theorem backs_len (n : Nat) : (backs n).length = n := by simp [backs]
theorem backs_at {n k : Nat} (h : k < n) : (backs n)[k]'(by rw [backs_len]; exact h) = ⟨n - 1 - k, by omega⟩ := by simp [backs]
theorem backs_snoc {n k : Nat} (h : k < n) : (backs n).take (k + 1) = (backs n).take k ++ [⟨n - 1 - k, by omega⟩] := by
  rw [take_snoc _ _ (by rw [backs_len]; exact h), backs_at h]
/-- What yield is handed. -/
def backV (l : List St) (A : Nat → Option Addr) (c : Nat → Nat) (j : Fin l.length) : Array Value := #[.int .i64 ((j.1 : Nat) : Int), .agg #[.int .i64 (l[j.1]'j.2).bit, .bool (l[j.1]'j.2).right, .slice (A j.1) (l[j.1]'j.2).other.length (c j.1)]]
/-- The cells of all steps, at a slice. -/
structure StepsAt (w : World) (b off : Nat) (l : List St) (A : Nat → Option Addr) (c : Nat → Nat) : Prop where
  lt : b < w.heap.size
  bit : ∀ j (h : j < l.length), w.cell? ⟨b, off + j * 3, none⟩ = some (.int .i64 l[j].bit)
  right : ∀ j (h : j < l.length), w.cell? ⟨b, off + j * 3 + 1, none⟩ = some (.bool l[j].right)
  other : ∀ j (h : j < l.length), w.cell? ⟨b, off + j * 3 + 2, none⟩ = some (.slice (A j) l[j].other.length (c j))
set_option maxRecDepth 100000 in
set_option maxHeartbeats 2000000 in
theorem back1_in (F : Fence) (n : Nat) (h7 : F.fn 136) (hro : F.round = none) (hn : 1 ≤ n) (T : Nat → Prop) (k0 Bs b off cap : Nat) (l : List St) (A : Nat → Option Addr) (c : Nat → Nat) (hl : l.length ≤ 140737488355328) (hb : T b) (J Jx : List (Fin l.length) → World → Prop)
    (hY : ∀ pre x W, J pre W → pre.length < l.length → YieldAt F (n - 1) Tryd.prog k0 (backV l A c x) W fun e W' =>
      (e = .returned (.bool true) ∧ J (pre ++ [x]) W' ∧ Same T W W') ∨ (e = .returned (.bool false) ∧ Jx (pre ++ [x]) W'))
    (W : World) (hBn : T Bs) (hBs : W.cell? ⟨Bs, 0, none⟩ = some (.slice (some ⟨b, off, none⟩) l.length cap)) (hBl : Bs < W.heap.size) (hS : StepsAt W b off l A c) (h0 : J [] W) :
    CallsIn F n Tryd.prog 136 #[.func (.yield k0) #[] #[], .pointer (some ⟨Bs, 0, none⟩)] W fun e W' => (∃ v, e = .returned v) ∧
      ((∃ ys, ys = backs l.length ∧ J ys W') ∨ (∃ pre, True ∧ Jx pre W')) := by
  refine callsIn_of_wp Tryd.func136 rfl h7 ?_ hro
  simp only [Tryd.ntmps136, List.size_toArray, List.length_cons, List.length_nil, Nat.reduceAdd, Nat.reduceSub, Array.replicate_succ, Array.replicate_zero, List.push_toArray, List.append_toArray, List.nil_append, List.cons_append]
  have mk0 : IntKind.i64.wrap ((l.length : Int) - 1) = (l.length : Int) - 1 := IntWalk.i64_in _ (by omega)
  gi_wp2
  gi_loopw [3] (fun i wr => ∃ k : Nat, k ≤ l.length ∧ i = .int .i64 ((l.length : Int) - 1 - (k : Int)) ∧ J ((backs l.length).take k) wr ∧ Same T W wr) (fun i _ => (intOf i + 1).toNat)
  case atStart => exact ⟨0, Nat.zero_le _, by simp, h0, Same.refl _ _⟩
  case round =>
    obtain ⟨k, hk, rfl, hJs, hnx⟩ := hrel
    have hBs' := (hnx.cell (p := ⟨Bs, 0, none⟩) hBn hBl).trans hBs
    by_cases hlt : k < l.length
    · have hj : l.length - 1 - k < l.length := by omega
      have ej : (l.length : Int) - 1 - (k : Int) = ((l.length - 1 - k : Nat) : Int) := by omega
      have hq0 := (hnx.cell (p := ⟨b, off + (l.length - 1 - k) * 3, none⟩) hb hS.lt).trans (hS.bit _ hj)
      have hq1 := (hnx.cell (p := ⟨b, off + (l.length - 1 - k) * 3 + 1, none⟩) hb hS.lt).trans (hS.right _ hj)
      have hq2 := (hnx.cell (p := ⟨b, off + (l.length - 1 - k) * 3 + 2, none⟩) hb hS.lt).trans (hS.other _ hj)
      obtain ⟨fn, tmps, assign, body, hy, hR⟩ := hY _ ⟨l.length - 1 - k, hj⟩ wr hJs (by rw [List.length_take, backs_len]; omega)
      have hsn := backs_snoc hlt
      unfold backV at hy
      dsimp only at hy
      have mk : IntKind.i64.wrap ((l.length : Int) - 1 - (k : Int) - 1) = (l.length : Int) - 1 - ((k + 1 : Nat) : Int) := by rw [IntWalk.i64_in _ (by omega)]; omega
      rw [ej] at *
      have hjz : (0 : Int) ≤ ((l.length - 1 - k : Nat) : Int) := by omega
      have hjl : ((l.length - 1 - k : Nat) : Int) < (l.length : Int) := by omega
      gi_wp2
      refine hR.mono ?_
      rintro e W3 (⟨rfl, hJ3, hk3⟩ | ⟨rfl, hJx3⟩)
      · gi_wp2
        go_roundw
        case rel => exact ⟨k + 1, by omega, by simp, by rw [hsn]; exact hJ3, hnx.trans hk3⟩
        case measure => simp [intOf]; omega
      · gi_wp2
        refine bodyPost_ret (results_none rfl _ _ _) rfl ?_
        exact ⟨⟨_, rfl⟩, .inr ⟨_, trivial, hJx3⟩⟩
    · obtain rfl : k = l.length := by omega
      have hk0 : ¬ (0 : Int) ≤ (l.length : Int) - 1 - (l.length : Int) := by omega
      gi_wp2
      go_end0
      rw [List.take_of_length_le (by rw [backs_len]; omega)] at hJs
      exact ⟨⟨_, rfl⟩, .inl hJs⟩
set_option maxRecDepth 100000 in
set_option maxHeartbeats 1000000 in
/-- .. of no steps. -/
theorem back1_nil_in (F : Fence) (n : Nat) (h7 : F.fn 136) (hro : F.round = none) (k0 Bs cap : Nat) (A : Option Addr) (J : World → Prop) (W : World) (hBs : W.cell? ⟨Bs, 0, none⟩ = some (.slice A 0 cap)) (h0 : J W) :
    CallsIn F n Tryd.prog 136 #[.func (.yield k0) #[] #[], .pointer (some ⟨Bs, 0, none⟩)] W fun e W' => (∃ v, e = .returned v) ∧ J W' := by
  refine callsIn_of_wp Tryd.func136 rfl h7 ?_ hro
  simp only [Tryd.ntmps136, List.size_toArray, List.length_cons, List.length_nil, Nat.reduceAdd, Nat.reduceSub, Array.replicate_succ, Array.replicate_zero, List.push_toArray, List.append_toArray, List.nil_append, List.cons_append]
  gi_wp2
  gi_loopw [3] (fun i wr => i = .int .i64 (-1) ∧ J wr) (fun _ _ => 0)
  case atStart => exact ⟨rfl, h0⟩
  case round =>
    obtain ⟨rfl, hJs⟩ := hrel
    gi_wp2
    go_end0
    exact ⟨⟨_, rfl⟩, hJs⟩
set_option maxHeartbeats 1000000 in
theorem backward_in (F : Fence) (n : Nat) (h5 : F.fn 109) (hro : F.round = none) (a : Option Addr) (len cap : Nat) (w : World) :
    CallsIn F n Tryd.prog 109 #[.slice a len cap] w fun e w' => e = .returned (.func (.func 136) #[] #[.pointer (some ⟨w.heap.size, 0, none⟩)]) ∧ w' = w.alloc (.cells #[.slice a len cap] 23) := by
  refine callsIn_of_wp Tryd.func109 rfl h5 ?_ hro
  simp only [Tryd.ntmps109, List.size_toArray, List.length_cons, List.length_nil, Nat.reduceAdd, Nat.reduceSub, Array.replicate_succ, Array.replicate_zero, List.push_toArray, List.append_toArray, List.nil_append, List.cons_append]
  gi_wp2
  go_ret
  exact ⟨rfl, rfl⟩
/-- The iterator's value hands over the steps, the last one first. -/
theorem backward_stops (F : Fence) (n : Nat) (h7 : F.fn 136) (hro : F.round = none) (hn : 1 ≤ n) (T : Nat → Prop) (Bs b off cap : Nat) (l : List St) (A : Nat → Option Addr) (c : Nat → Nat) (hl : l.length ≤ 140737488355328) (hb : T b) (w : World)
    (hBn : T Bs) (hBs : w.cell? ⟨Bs, 0, none⟩ = some (.slice (some ⟨b, off, none⟩) l.length cap)) (hBl : Bs < w.heap.size) (hS : StepsAt w b off l A c) :
    SeqStopsK F n Tryd.prog 136 #[.pointer (some ⟨Bs, 0, none⟩)] (backV l A c) (Same T) (fun ys => ys = backs l.length) (fun _ => True) l.length w := fun k0 J Jx W hW _ _ hY h0 => by
  refine (back1_in F n h7 hro hn T k0 Bs b off cap l A c hl hb J Jx hY W hBn ((hW.cell (p := ⟨Bs, 0, none⟩) hBl).trans hBs) (Nat.lt_of_lt_of_le hBl hW.size) ⟨Nat.lt_of_lt_of_le hS.lt hW.size, fun j h => (hW.cell hS.lt).trans (hS.bit j h), fun j h => (hW.cell hS.lt).trans (hS.right j h), fun j h => (hW.cell hS.lt).trans (hS.other j h)⟩ h0)
theorem backward_stops_nil (F : Fence) (n : Nat) (h7 : F.fn 136) (hro : F.round = none) (T : Nat → Prop) (Bs cap : Nat) (B : Option Addr) (A : Nat → Option Addr) (c : Nat → Nat) (w : World)
    (hBs : w.cell? ⟨Bs, 0, none⟩ = some (.slice B 0 cap)) (hBl : Bs < w.heap.size) :
    SeqStopsK F n Tryd.prog 136 #[.pointer (some ⟨Bs, 0, none⟩)] (backV [] A c) (Same T) (fun ys => ys = backs 0) (fun _ => True) 0 w := fun k0 J Jx W hW _ _ _ h0 => by
  refine (back1_nil_in F n h7 hro k0 Bs cap B (J []) W ((hW.cell (p := ⟨Bs, 0, none⟩) hBl).trans hBs) h0).mono ?_
  rintro e W' ⟨he, hj⟩
  exact ⟨he, .inl ⟨[], rfl, hj⟩⟩
/-- The steps' cells by functions. -/
theorem steps_at {S : Nat → Prop} {w : World} {b off : Nat} {l : List St} (h : Sts S w (some ⟨b, off, none⟩) l) (hl : 0 < l.length) : ∃ (A : Nat → Option Addr) (c : Nat → Nat), StepsAt w b off l A c ∧ (∀ j (hj : j < l.length), Bs S w (A j) l[j].other) ∧ S b := by
  have hex : ∀ j, ∃ (p : Option Addr × Nat), ∀ (hj : j < l.length), w.cell? ⟨b, off + j * 3, none⟩ = some (.int .i64 l[j].bit) ∧ w.cell? ⟨b, off + j * 3 + 1, none⟩ = some (.bool l[j].right) ∧ w.cell? ⟨b, off + j * 3 + 2, none⟩ = some (.slice p.1 l[j].other.length p.2) ∧ Bs S w p.1 l[j].other := by
    intro j
    by_cases hj : j < l.length
    · obtain ⟨b', off', B, c, he, _, _, h1, h2, h3, h4, _⟩ := sts_at h hj
      cases he
      exact ⟨(B, c), fun _ => ⟨h1, h2, h3, h4⟩⟩
    · exact ⟨(none, 0), fun h => absurd h hj⟩
  obtain ⟨b', off', _, _, he, hS, hlt, _⟩ := sts_at h hl
  cases he
  exact ⟨fun j => (Classical.choose (hex j)).1, fun j => (Classical.choose (hex j)).2, ⟨hlt, fun j hj => (Classical.choose_spec (hex j) hj).1, fun j hj => (Classical.choose_spec (hex j) hj).2.1, fun j hj => (Classical.choose_spec (hex j) hj).2.2.1⟩, fun j hj => (Classical.choose_spec (hex j) hj).2.2.2, hS⟩
end Go.Proofs.YteacjkihjeiafaaDoor
namespace Go.Proofs.YteacjkihjeiafaaDoor
open Go.RowKit Go.Shelf
set_option linter.unusedVariables false
set_option linter.unusedSimpArgs false
attribute [local go_sem] Oper.semAt_some

/-- One step up. -/
def stepUp (s : St) (d : List UInt8) : List UInt8 := if s.right then forkS s.bit s.other d else forkS s.bit d s.other
theorem stepUp_len (s : St) (d : List UInt8) : (stepUp s d).length = 32 := by unfold stepUp; split <;> exact dig_len _
/-- What proof.up answers. -/
def upS (p : Pf) : List UInt8 := if p.empty then noneS else p.steps.foldr stepUp (leafS p.pair)
/-- .. behind so many steps, the last one first. -/
def upTo (p : Pf) (pre : List (Fin p.steps.length)) : List UInt8 := pre.foldl (fun d j => stepUp (p.steps[j.1]'j.2) d) (leafS p.pair)
theorem upTo_snoc (p : Pf) (pre : List (Fin p.steps.length)) (j : Fin p.steps.length) : upTo p (pre ++ [j]) = stepUp (p.steps[j.1]'j.2) (upTo p pre) := by simp [upTo]
theorem upTo_len (p : Pf) (pre : List (Fin p.steps.length)) : (upTo p pre).length = 32 := by
  rcases List.eq_nil_or_concat pre with rfl | ⟨q, j, rfl⟩
  · exact dig_len _
  · rw [List.concat_eq_append, upTo_snoc]; exact stepUp_len _ _
theorem upTo_all (p : Pf) : upTo p (backs p.steps.length) = p.steps.foldr stepUp (leafS p.pair) := by
  have e : (List.finRange p.steps.length).map (fun j => p.steps[j.1]'j.2) = p.steps := by
    apply List.ext_getElem
    · simp
    · intro i h1 h2
      simp
  unfold upTo backs
  rw [List.foldl_reverse]
  conv => rhs; rw [← e]
  rw [List.foldr_map]
theorem one_tree {q : Pr} (h : pairFaultS q = 0) : rootE [q] = (leafS q, 0) := by
  have hf : pairsFaultS [q] = 0 := (pairs_fault_iff _).2 ⟨by simp, by simpa using h, by
    intro i j hi hj
    simp [keys] at hj
    omega⟩
  rw [rootE, if_pos hf, root_one rfl]
  rfl
theorem ps_one {w : World} {g : Nat} {t : TypeId} {A B : Option Addr} {a b : Nat} {q : Pr} (h : w.heap[g]? = some (.cells #[.slice A q.1.length a, .slice B q.2.length b] t (0, 0))) (h1 : Bs All w A q.1) (h2 : Bs All w B q.2) (g1 : q.1.length ≤ big) (g2 : q.2.length ≤ big) : Ps All w (some ⟨g, 0, none⟩) [q] := by
  refine sl_block (cs := [.slice A q.1.length a, .slice B q.2.length b]) h trivial fun i hi => ?_
  obtain rfl : i = 0 := by simpa using hi
  exact ⟨[.slice A q.1.length a, .slice B q.2.length b], rfl, fun j hj => by match j, hj with
    | 0, _ => rfl
    | 1, _ => rfl, A, a, B, b, rfl, h1, h2, g1, g2⟩
theorem rootOne_ok (w : World) (hT : TabsAt w) (A : Option Addr) (q : Pr) (c : Nat) (ha : Ps All w A [q]) (hc : 1 ≤ c) (h : pairFaultS q = 0) : Calls Tryd.prog 32 #[.slice A 1 c] w (RetBsE w (leafS q, 0)) := by
  have := treeRootE_ok w hT A [q] c ha hc
  rw [one_tree h] at this
  exact this
theorem bs_grown {S : Nat → Prop} {W W' : World} {row : Option Nat} {A : Option Addr} {l : List UInt8} (h : Bs S W A l) (hg : W.grownBy W' row) (hr : ∀ r, row = some r → ∃ o : Obj, W.heap[r]? = some o ∧ o.isCells = false) : Bs S W' A l := by
  have h1 : Bs (fun b => S b ∧ row ≠ some b) W A l := by
    intro hl
    obtain ⟨b, off, e, hS, hlt, hi⟩ := h hl
    refine ⟨b, off, e, ⟨hS, fun er => ?_⟩, hlt, fun i hil => ?_⟩
    · obtain ⟨o, ho, hc⟩ := hr b er
      obtain ⟨cs, h1, h2, h3⟩ := hi 0 hl
      have h4 := h2 0 (by omega)
      rw [h3] at h4
      have h5 : W.cell? ⟨b, off + 0 * 1 + 0, none⟩ = some (bv l[0]) := h4
      cases o <;> simp [World.cell?, ho, Obj.isCells] at h5 hc
    · obtain ⟨cs, h1, h2, h3⟩ := hi i hil
      exact ⟨cs, h1, h2, h3⟩
  exact (h1.bsame ⟨hg.size, fun k hk hlt => hg.block k hlt (fun e => hk.2 e.symm)⟩).bless fun b _ h => h.1
theorem block_grown {W W' : World} {row : Option Nat} {g : Nat} {cs : Array Value} {t : TypeId} {f : Nat × Nat} (h : W.heap[g]? = some (.cells cs t f)) (hg : W.grownBy W' row) (hr : ∀ r, row = some r → ∃ o : Obj, W.heap[r]? = some o ∧ o.isCells = false) : W'.heap[g]? = some (.cells cs t f) := by
  refine (hg.block g (Array.getElem?_eq_some_iff.1 h).1 fun e => ?_).trans h
  obtain ⟨o, ho, hc⟩ := hr g e.symm
  rw [h] at ho
  cases ho
  cases hc
theorem keepsFrom_below {B : Nat} {W W' : World} (h : Below W.heap.size W W') : KeepsFrom B W W' := ⟨h.size, fun k o _ hk _ => (h.block k (Array.getElem?_eq_some_iff.1 hk).1).trans hk⟩
set_option maxRecDepth 100000 in
set_option maxHeartbeats 8000000 in
theorem up_ok (w : World) (hT : TabsAt w) (A K V : Option Addr) (p : Pf) (n a b : Nat) (ha : Sts All w A p.steps) (hK : Bs All w K p.pair.1) (hV : Bs All w V p.pair.2) (he : p.empty = false) (hp : pairFaultS p.pair = 0) (hst : p.steps.length * 40 ≤ 140737488355328)
    (hs : ∀ j (h : j < p.steps.length), (0 ≤ p.steps[j].bit ∧ p.steps[j].bit ≤ 144) ∧ p.steps[j].other.length = 32) :
    Calls Tryd.prog 67 #[.agg #[.bool false, .slice A p.steps.length n, .slice K p.pair.1.length a, .slice V p.pair.2.length b]] w (RetBs w (upS p)) := by
  have HT := Lib.hid hT
  have Ha := Lib.hid ha
  have HK := Lib.hid hK
  have HV := Lib.hid hV
  have Hp := Lib.hid hp
  have Hs := Lib.hid hs
  have hl1 : p.pair.1.length ≤ big ∧ p.pair.2.length ≤ big := by
    unfold pairFaultS keyFault at hp
    split at hp
    · cases hp
    · split at hp <;> (unfold big; constructor <;> omega)
  clear hT ha hK hV hs hp
  refine (callsIn_wide (n := 3)).1 ?_
  refine callsIn_of_wp_marks Tryd.func67 rfl trivial ?_ rfl
  simp only [Tryd.ntmps67, List.size_toArray, List.length_cons, List.length_nil, Nat.reduceAdd, Nat.reduceSub, Array.replicate_succ, Array.replicate_zero, List.push_toArray, List.append_toArray, List.nil_append, List.cons_append]
  gi_wp2_with (first
    | (refine ⟨trivial, ?_⟩; gi_at_call 32; (with_reducible refine (callsIn_wide.2 (rootOne_ok _ ?t1 _ p.pair _ ?t2 (by omega) Hp.out)).mono ?_); (case t1 => (refine HT.out.below ?_; repeat' (first | exact Below.refl _ _ | assumption | refine Below.drew ?_ | refine below_drewN ?_ _ | refine Below.setCell ?_ (by first | (simp; done) | omega | (simp; omega)) _ | refine Below.alloc ?_ (by first | exact Nat.le_refl _ | omega | (simp; done) | (simp; omega)) _))); (case t2 => (refine ps_one (box_at _ _ (by simp)) (HK.out.bbelow ?_) (HV.out.bbelow ?_) hl1.1 hl1.2; repeat' (first | exact Below.refl _ _ | assumption | refine Below.drew ?_ | refine below_drewN ?_ _ | refine Below.setCell ?_ (by first | (simp; done) | omega | (simp; omega)) _ | refine Below.alloc ?_ (by first | exact Nat.le_refl _ | omega | (simp; done) | (simp; omega)) _))); rintro e1 w1 ⟨B, bc, rfl, hsB, hb1⟩; have hq1 : Below w.heap.size w w1 := (Below.next (by repeat' (first | exact Below.refl _ _ | assumption | refine Below.drew ?_ | refine below_drewN ?_ _ | refine Below.setCell ?_ (by first | (simp; done) | omega | (simp; omega)) _ | refine Below.alloc ?_ (by first | exact Nat.le_refl _ | omega | (simp; done) | (simp; omega)) _)) hb1 (by simp; omega)); have hx1 := (hb1.block w.heap.size (by simp; omega)).trans ((alloc_oldB _ _ (by simp)).trans (box_new w _ _)); obtain ⟨x0, x1, x2, x3, _⟩ := box4p hx1; have hz1 : w.heap.size < w1.heap.size := (Array.getElem?_eq_some_iff.1 hx1).1)
    | (refine ⟨trivial, ?_⟩; gi_at_call 109; refine (backward_in Fence.wide _ trivial rfl _ _ _ _).mono ?_; rintro e w' ⟨rfl, rfl⟩))
  obtain ⟨W0, hW0⟩ : ∃ W0, (w1.alloc (.cells #[.slice B (leafS p.pair).length bc] 22)).alloc (.cells #[.slice A p.steps.length n] 23) = W0 := ⟨_, rfl⟩
  have hsz : W0.heap.size = w1.heap.size + 2 := by rw [← hW0]; simp
  have hD0 : W0.heap[w1.heap.size]? = some (.cells #[.slice B (leafS p.pair).length bc] 22 (0, 0)) := by rw [← hW0]; exact (alloc_oldB _ _ (by simp)).trans (box_new w1 _ _)
  have hE0 : W0.heap[w1.heap.size + 1]? = some (.cells #[.slice A p.steps.length n] 23 (0, 0)) := by
    have := alloc_newB (w1.alloc (.cells #[.slice B (leafS p.pair).length bc] 22)) (.cells #[.slice A p.steps.length n] 23)
    rw [← hW0]
    simpa using this
  have hb0 : Below w.heap.size w W0 := by rw [← hW0]; exact (hq1.alloc hq1.size _).alloc (by have := hq1.size; simp; omega) _
  have hwz : w.heap.size < w1.heap.size := hz1
  have hs0 : Bs (From w.heap.size) W0 B (leafS p.pair) := by
    rw [← hW0]
    exact (hsB.bsame (((Same.refl _ _).alloc _).alloc _)).blo (by simp; omega)
  have hst0 : ∃ (Aj : Nat → Option Addr) (cj : Nat → Nat), (∀ j (h : j < p.steps.length), Bs All w (Aj j) p.steps[j].other) ∧ SeqStopsK Fence.wide (3 - 1) Tryd.prog 136 #[.pointer (some ⟨w1.heap.size + 1, 0, none⟩)] (backV p.steps Aj cj) (Same (fun k => k < W0.heap.size ∧ k ≠ w1.heap.size)) (fun ys => ys = backs p.steps.length) (fun _ => True) p.steps.length W0 := by
    by_cases h0 : 0 < p.steps.length
    · obtain ⟨gb, go, _, _, rfl, _⟩ := sts_at Ha.out h0
      obtain ⟨Aj, cj, hS, hB, _⟩ := steps_at Ha.out h0
      refine ⟨Aj, cj, hB, backward_stops Fence.wide _ trivial rfl (by omega) _ (w1.heap.size + 1) gb go n p.steps Aj cj (by omega) ⟨by have := hS.lt; omega, by have := hS.lt; omega⟩ W0 ⟨by omega, by omega⟩ (box_cell (cs := [.slice (some ⟨gb, go, none⟩) p.steps.length n]) hE0 0) (by omega) ⟨by have := hS.lt; omega, fun j h => (hb0.cell hS.lt).trans (hS.bit j h), fun j h => (hb0.cell hS.lt).trans (hS.right j h), fun j h => (hb0.cell hS.lt).trans (hS.other j h)⟩⟩
    · have hz : p.steps.length = 0 := by omega
      have hnil := List.eq_nil_of_length_eq_zero hz
      refine ⟨fun _ => none, fun _ => 0, fun j h => absurd h (by omega), ?_⟩
      rw [hz] at hE0
      have := backward_stops_nil Fence.wide (3 - 1) trivial rfl (fun k => k < W0.heap.size ∧ k ≠ w1.heap.size) (w1.heap.size + 1) n A (fun _ => none) (fun _ => 0) W0 (box_cell (cs := [.slice A 0 n]) hE0 0) (by omega)
      obtain ⟨pe, ps, pp⟩ := p
      simp only [] at hnil
      subst hnil
      exact this
  obtain ⟨Aj, cj, hBj, hseq⟩ := hst0
  have HBj := Lib.hid hBj
  rw [hW0]
  clear hW0 hBj hb1 hx1 x0 x1 x2 x3 hq1 hz1 hsB
  refine wpIn_rangeFunc_ownH rfl (by omega) (gf := 136) (lb := #[.pointer (some ⟨w1.heap.size + 1, 0, none⟩)]) rfl trivial (enters_of Tryd.func136 (by kernel_rfl) rfl)
    hseq (fun h k => h.trans k) (fun W l o o' hl h _ _ => ⟨(grownBy_putObj' W l o').size, fun k hk hlt => (grownBy_putObj' W l o').block k hlt (fun e => by cases e; omega)⟩) (Below.refl _ _) (fun _ => rfl)
    (fun pre W => ((∃ Bd bd, W.heap[w1.heap.size]? = some (.cells #[.slice Bd (upTo p pre).length bd] 22 (0, 0)) ∧ Bs (From w.heap.size) W Bd (upTo p pre)) ∧ (Below w.heap.size w W ∧ W0.heap.size ≤ W.heap.size)))
    (fun _ _ _ => False)
    (OwnFrom.and (fun pre X Y row hs hg hr => by obtain ⟨Bd, bd, h1, h2⟩ := hs; exact ⟨Bd, bd, block_grown h1 hg (fun r e => (hr r e).2), bs_grown h2 hg (fun r e => (hr r e).2)⟩) (OwnFrom.and (ownFrom_below (Nat.le_refl _) (by omega)) (fun pre X Y row hs hg _ => Nat.le_trans hs hg.size)))
    (fun _ _ _ _ _ hs _ _ => hs)
    ⟨⟨B, bc, hD0, hs0⟩, hb0, Nat.le_refl _⟩
    (fun x a' W => ∃ Bx, W0.heap.size ≤ Bx ∧ W.heap[Bx]? = some (.cells #[.int .i64 (p.steps[x.1]'x.2).bit, .bool (p.steps[x.1]'x.2).right, .slice (Aj x.1) (p.steps[x.1]'x.2).other.length (cj x.1)] 70 (0, 0)) ∧ a' = { tmps := #[.agg #[.bool false, .slice A p.steps.length n, .slice K p.pair.1.length a, .slice V p.pair.2.length b], .pointer (some ⟨w.heap.size, 0, none⟩), .slice none 0 0, undef, undef, .pointer (some ⟨w1.heap.size, 0, none⟩), .int .i64 0, undef, .pointer (some ⟨Bx, 0, none⟩), undef, .pointer (some ⟨w.heap.size, 0, none⟩), .bool false, undef, undef, undef, undef, undef, .tuple #[.slice B (leafS p.pair).length bc, .int .i64 0], .pointer (some ⟨w.heap.size, 2, none⟩), .agg #[.slice K p.pair.1.length a, .slice V p.pair.2.length b], .slice (some ⟨w.heap.size + 1, 0, none⟩) 1 1, .tuple #[.slice B (leafS p.pair).length bc, .int .i64 0], .slice B (leafS p.pair).length bc, .int .i64 0, .pointer (some ⟨w.heap.size, 1, none⟩), .slice A p.steps.length n, .func (.func 136) #[] #[.pointer (some ⟨w1.heap.size + 1, 0, none⟩)], .int .i64 ((x.1 : Nat) : Int), .agg #[.int .i64 (p.steps[x.1]'x.2).bit, .bool (p.steps[x.1]'x.2).right, .slice (Aj x.1) (p.steps[x.1]'x.2).other.length (cj x.1)], undef, undef, undef, undef, undef, undef, undef, undef, undef, undef, undef, undef, undef, undef, undef, undef, undef, undef, undef, undef, undef, undef, undef, undef, undef, undef], defers := [] })
    (fun x a' _ X Y row hs hg hr => by obtain ⟨Bx, h1, h2, h3⟩ := hs; exact ⟨Bx, h1, block_grown h2 hg (fun r e => (hr r e).2), h3⟩)
    ?assign ?body ?done ?stop
  case assign =>
    rintro l pre x W K ⟨⟨Bd, bd, h1, h2⟩, h3, h4⟩ hK
    have hlt := (Array.getElem?_eq_some_iff.1 h1).1
    unfold backV
    gi_wp2
    exact hK _ _ ((KeepsOthers.alloc _ _).from _) ((Same.refl _ _).alloc _) ⟨⟨Bd, bd, (alloc_oldB _ _ hlt).trans h1, h2.bsame ((Same.refl _ _).alloc _)⟩, h3.alloc h3.size _, by simp; omega⟩ ⟨W.heap.size, h4, box_new W _ _, rfl⟩
  case body =>
    rintro l pre x a' W hl ⟨r, hr⟩ ⟨⟨Bd, bd, h1, h2⟩, h3, h4⟩ ⟨Bx, hBx, bX, rfl⟩ hlt
    obtain ⟨⟨hb1, hb2⟩, ho⟩ := Hs.out x.1 x.2
    have Hx := Lib.hid (HBj.out x.1 x.2)
    have Hsn := Lib.hid (upTo_snoc p pre x)
    have Hul := Lib.hid (upTo_len p pre)
    generalize p.steps[x.1]'x.2 = st at *
    obtain ⟨d, hd⟩ : ∃ d : Nat, st.bit = (d : Int) := ⟨st.bit.toNat, by omega⟩
    obtain ⟨sb, sr, so⟩ := st
    simp only [] at hd hb1 hb2 ho
    subst hd
    have mk : IntKind.u8.wrap (d : Int) = (d : Int) := IntWalk.u8_in _ (by omega)
    have Hbv := Lib.hid (bv_bit (d := d) (by omega))
    have Ho := Lib.hid ho
    have hDl := (Array.getElem?_eq_some_iff.1 h1).1
    have hBl := (Array.getElem?_eq_some_iff.1 bX).1
    have q0 := box_cell (cs := [_]) h1 0
    have q1 := box_frozen (cs := [_]) h1 0
    simp only [List.getElem?_cons_zero] at q0
    obtain ⟨c0, c1, c2, _⟩ := box3p bX
    have H2 := Lib.hid h2
    clear ho hb1 hb2
    cases sr with
    | true =>
      have He := Lib.hid (show upTo p (pre ++ [x]) = forkS (d : Int) so (upTo p pre) from Hsn.out.trans (by simp [stepUp]))
      gi_wp2_with (first
        | (refine ⟨trivial, ?_⟩; gi_at_call 70; (with_reducible refine (CallsIn.inRound l (callsIn_wide.2 (partsFork_ok _ ?t1 _ d so (upTo p pre) _ ?t2 (by rw [Ho.out, Hul.out]; omega)))).mono ?_); (case t1 => (refine HT.out.below ?_; repeat' (first | exact Below.refl _ _ | assumption | refine Below.drew ?_ | refine below_drewN ?_ _ | refine Below.setCell ?_ (by first | (simp; done) | omega | (simp; omega)) _ | refine Below.alloc ?_ (by first | exact Nat.le_refl _ | omega | (simp; done) | (simp; omega)) _))); (case t2 => (refine bls_three (x := [UInt8.ofNat (d : Int).toNat]) (a := 1) (box_at _ _ (by simp)) (bs_one ((alloc_oldB _ _ (by simp)).trans (by rw [← Hbv.out]; exact box_at _ _ (by simp)))) (Hx.out.bbelow ?_) ((H2.out.bz).bsame (by repeat' (first | exact Same.refl _ _ | assumption | refine Same.drew ?_ | refine Same.drewN ?_ _ | refine Same.alloc ?_ _ | refine Same.setCell ?_ (fun hq => by simp only [From] at hq; first | omega | (simp at hq; done) | (simp at hq; omega)) _))) (by simp [big]) (by rw [Ho.out]; simp [big]) (by rw [Hul.out]; simp [big]); repeat' (first | exact Below.refl _ _ | assumption | refine Below.drew ?_ | refine below_drewN ?_ _ | refine Below.setCell ?_ (by first | (simp; done) | omega | (simp; omega)) _ | refine Below.alloc ?_ (by first | exact Nat.le_refl _ | omega | (simp; done) | (simp; omega)) _))); rintro e5 w5 ⟨Z, z, rfl, hsz, hb5⟩; have hbW : Below W.heap.size W w5 := (Below.next (by repeat' (first | exact Below.refl _ _ | assumption | refine Below.drew ?_ | refine below_drewN ?_ _ | refine Below.setCell ?_ (by first | (simp; done) | omega | (simp; omega)) _ | refine Below.alloc ?_ (by first | exact Nat.le_refl _ | omega | (simp; done) | (simp; omega)) _)) hb5 (by simp; omega)); have hD5 := (hbW.block _ hDl).trans h1; have v0 := box_cell (cs := [_]) hD5 0; have v1 := box_frozen (cs := [_]) hD5 0; simp only [List.getElem?_cons_zero] at v0))
      refine ⟨(keepsFrom_below hbW).trans ((KeepsOthers.setCell _ _ _).from _), (Same.of_below hbW).setCell (fun h => h.2 rfl) _, ⟨⟨Z, z, ?_, ?_⟩, ?_, ?_⟩⟩
      · rw [He.out, heap_setCell_same _ _ _ _ _ _ hD5]
        rfl
      · rw [He.out]
        exact (hsz.bsame ((Same.refl _ _).setCell (fun h => by simp only [From] at h; simp at h; omega) _)).blo (by have := h3.size; simp; omega)
      · exact (h3.next hbW h3.size).setCell (by have := h3.size; simp only []; omega) _
      · have := hbW.size
        simp
        omega
    | false =>
      have He := Lib.hid (show upTo p (pre ++ [x]) = forkS (d : Int) (upTo p pre) so from Hsn.out.trans (by simp [stepUp]))
      gi_wp2_with (first
        | (refine ⟨trivial, ?_⟩; gi_at_call 70; (with_reducible refine (CallsIn.inRound l (callsIn_wide.2 (partsFork_ok _ ?t1 _ d (upTo p pre) so _ ?t2 (by rw [Ho.out, Hul.out]; omega)))).mono ?_); (case t1 => (refine HT.out.below ?_; repeat' (first | exact Below.refl _ _ | assumption | refine Below.drew ?_ | refine below_drewN ?_ _ | refine Below.setCell ?_ (by first | (simp; done) | omega | (simp; omega)) _ | refine Below.alloc ?_ (by first | exact Nat.le_refl _ | omega | (simp; done) | (simp; omega)) _))); (case t2 => (refine bls_three (x := [UInt8.ofNat (d : Int).toNat]) (a := 1) (box_at _ _ (by simp)) (bs_one ((alloc_oldB _ _ (by simp)).trans (by rw [← Hbv.out]; exact box_at _ _ (by simp)))) ((H2.out.bz).bsame (by repeat' (first | exact Same.refl _ _ | assumption | refine Same.drew ?_ | refine Same.drewN ?_ _ | refine Same.alloc ?_ _ | refine Same.setCell ?_ (fun hq => by simp only [From] at hq; first | omega | (simp at hq; done) | (simp at hq; omega)) _))) (Hx.out.bbelow ?_) (by simp [big]) (by rw [Hul.out]; simp [big]) (by rw [Ho.out]; simp [big]); repeat' (first | exact Below.refl _ _ | assumption | refine Below.drew ?_ | refine below_drewN ?_ _ | refine Below.setCell ?_ (by first | (simp; done) | omega | (simp; omega)) _ | refine Below.alloc ?_ (by first | exact Nat.le_refl _ | omega | (simp; done) | (simp; omega)) _))); rintro e5 w5 ⟨Z, z, rfl, hsz, hb5⟩; have hbW : Below W.heap.size W w5 := (Below.next (by repeat' (first | exact Below.refl _ _ | assumption | refine Below.drew ?_ | refine below_drewN ?_ _ | refine Below.setCell ?_ (by first | (simp; done) | omega | (simp; omega)) _ | refine Below.alloc ?_ (by first | exact Nat.le_refl _ | omega | (simp; done) | (simp; omega)) _)) hb5 (by simp; omega)); have hD5 := (hbW.block _ hDl).trans h1; have v0 := box_cell (cs := [_]) hD5 0; have v1 := box_frozen (cs := [_]) hD5 0; simp only [List.getElem?_cons_zero] at v0))
      refine ⟨(keepsFrom_below hbW).trans ((KeepsOthers.setCell _ _ _).from _), (Same.of_below hbW).setCell (fun h => h.2 rfl) _, ⟨⟨Z, z, ?_, ?_⟩, ?_, ?_⟩⟩
      · rw [He.out, heap_setCell_same _ _ _ _ _ _ hD5]
        rfl
      · rw [He.out]
        exact (hsz.bsame ((Same.refl _ _).setCell (fun h => by simp only [From] at h; simp at h; omega) _)).blo (by have := h3.size; simp; omega)
      · exact (h3.next hbW h3.size).setCell (by have := h3.size; simp only []; omega) _
      · have := hbW.size
        simp
        omega
  case done =>
    rintro D zs W hD rfl ⟨⟨Bd, bd, h1, h2⟩, h3, h4⟩ hK
    have q0 := box_cell (cs := [_]) h1 0
    simp only [List.getElem?_cons_zero] at q0
    have Hu := Lib.hid (show upTo p (backs p.steps.length) = upS p by rw [upTo_all, upS, he]; rfl)
    rw [Hu.out] at q0
    gi_wp2
    refine ⟨by simp, .inl ⟨_, _, rfl, run_takeDeferred hK, ?_⟩⟩
    refine ⟨_, results_tmp rfl _ _ _, ⟨Bd, bd, rfl, ?_, ?_⟩⟩
    · rw [Hu.out] at h2
      exact bs_grown h2 (grownBy_putObj' W D (.deferred none)) (fun r e => by cases e; exact ⟨_, hK, rfl⟩)
    · exact h3.trans (belowK_b (w := W0) (by omega) W D _ _ hD hK rfl rfl)
  case stop =>
    rintro D c pre W _ _ h _
    exact h.elim
end Go.Proofs.YteacjkihjeiafaaDoor
namespace Go.Proofs.YteacjkihjeiafaaDoor
open Go.RowKit
set_option linter.unusedVariables false
set_option linter.unusedSimpArgs false

theorem bytesEq_ok (w : World) (A B : Option Addr) (a b : List UInt8) (c d : Nat) (ha : Bs All w A a) (hb : Bs All w B b) :
    Calls Tryd.prog 66 #[.slice A a.length c, .slice B b.length d] w fun e w' => e = .returned (.bool (a == b)) ∧ w = w' := by
  have h1 := conv_str ha 22 9 5 c Tryd.underlying22 Tryd.underlying5 Tryd.underlying9
  have h2 := conv_str hb 22 9 5 d Tryd.underlying22 Tryd.underlying5 Tryd.underlying9
  clear ha hb
  go_enter Tryd.func66, Tryd.ntmps66
  go_wp2
  go_ret
  exact ⟨rfl, rfl⟩

theorem upS_empty {p : Pf} (h : p.empty = true) : upS p = noneS := by unfold upS; rw [if_pos h]
theorem upS_full {p : Pf} (h : p.empty = false) : upS p = p.steps.foldr stepUp (leafS p.pair) := by unfold upS; rw [h]; rfl
theorem steps_fine {k : List UInt8} {p : Pf} (h : proofFaultS k p = 0) (he : p.empty = false) : pairFaultS p.pair = 0 ∧ ∀ j (hj : j < p.steps.length), (0 ≤ p.steps[j].bit ∧ p.steps[j].bit ≤ 144) ∧ p.steps[j].other.length = 32 := by
  unfold proofFaultS at h
  split at h
  · rename_i h1; exact absurd h h1
  · unfold mayFault at h
    rw [he, if_neg (by simp)] at h
    split at h
    · cases h
    · rename_i h2
      rw [Decidable.not_not] at h2
      refine ⟨h2, fun j hj => ?_⟩
      have h3 := firstBad_zero p.steps.length 0 h j hj
      rw [Nat.zero_add, stepAt_eq _ _ hj] at h3
      split at h3
      · cases h3
      · rename_i h4
        unfold stepBad at h4
        simp only [Bool.not_eq_true, Bool.or_eq_false_iff, Bool.not_eq_false', Bool.and_eq_true, decide_eq_true_eq, bne_eq_false_iff_eq] at h4
        exact ⟨h4.1.1.1.1, h4.1.1.1.2⟩
theorem rootNil_ok (w : World) (hT : TabsAt w) : Calls Tryd.prog 32 #[.slice none 0 0] w (RetBsE w (noneS, 0)) := treeRootE_ok w hT none [] 0 SL.nil (Nat.le_refl _)
set_option maxRecDepth 100000 in
set_option maxHeartbeats 1000000 in
theorem up_none (w : World) (hT : TabsAt w) (A K V : Option Addr) (p : Pf) (n a b : Nat) (he : p.empty = true) :
    Calls Tryd.prog 67 #[.agg #[.bool true, .slice A p.steps.length n, .slice K p.pair.1.length a, .slice V p.pair.2.length b]] w (RetBs w (upS p)) := by
  have HT := Lib.hid hT
  have Hu := Lib.hid (upS_empty he)
  clear hT he
  go_enter Tryd.func67, Tryd.ntmps67
  go_wp2_with ((go_at_call 32; (with_reducible refine (rootNil_ok _ ?t1).mono ?_); (case t1 => (refine HT.out.below ?_; repeat' (first | exact Below.refl _ _ | assumption | refine Below.drew ?_ | refine below_drewN ?_ _ | refine Below.setCell ?_ (by first | (simp; done) | omega | (simp; omega)) _ | refine Below.alloc ?_ (by first | exact Nat.le_refl _ | omega | (simp; done) | (simp; omega)) _))); rintro e1 w1 ⟨B, b, rfl, hs1, hb1⟩))
  go_ret
  rw [Hu.out]
  exact ⟨B, b, rfl, hs1.blo (by simp), Below.next (by repeat' (first | exact Below.refl _ _ | assumption | refine Below.drew ?_ | refine below_drewN ?_ _ | refine Below.setCell ?_ (by first | (simp; done) | omega | (simp; omega)) _ | refine Below.alloc ?_ (by first | exact Nat.le_refl _ | omega | (simp; done) | (simp; omega)) _)) hb1 (by simp)⟩
theorem upAny_ok (w : World) (hT : TabsAt w) (A K V : Option Addr) (p : Pf) (k : List UInt8) (n a b : Nat) (ha : Sts All w A p.steps) (hK : Bs All w K p.pair.1) (hV : Bs All w V p.pair.2) (hf : proofFaultS k p = 0) (hst : p.steps.length * 40 ≤ 140737488355328) :
    Calls Tryd.prog 67 #[.agg #[.bool p.empty, .slice A p.steps.length n, .slice K p.pair.1.length a, .slice V p.pair.2.length b]] w (RetBs w (upS p)) := by
  cases he : p.empty with
  | true => exact up_none w hT A K V p n a b he
  | false =>
    obtain ⟨h1, h2⟩ := steps_fine hf he
    exact up_ok w hT A K V p n a b ha hK hV he h1 hst h2
theorem noneIs_ok (w : World) (p : Pf) (he : p.empty = true) : Calls Tryd.prog 36 #[] w (RetBs w (upS p)) := by
  rw [upS_empty he]
  exact noneDigest_ok w
set_option maxRecDepth 100000 in
set_option maxHeartbeats 4000000 in
theorem digestUp_ok (w : World) (A K V : Option Addr) (p : Pf) (n a b : Nat) (ha : Sts All w A p.steps) (hK : Bs All w K p.pair.1) (hV : Bs All w V p.pair.2) (he : p.empty = false) (hp : pairFaultS p.pair = 0) (hst : p.steps.length * 40 ≤ 140737488355328)
    (hs : ∀ j (h : j < p.steps.length), (0 ≤ p.steps[j].bit ∧ p.steps[j].bit ≤ 144) ∧ p.steps[j].other.length = 32) :
    Calls Tryd.prog 74 #[.agg #[.bool false, .slice A p.steps.length n, .slice K p.pair.1.length a, .slice V p.pair.2.length b]] w (RetBs w (upS p)) := by
  have Ha := Lib.hid ha
  have HK := Lib.hid hK
  have HV := Lib.hid hV
  have Hs := Lib.hid hs
  have Hu := Lib.hid ((upTo_all p).trans (upS_full he).symm)
  have Hl := Lib.hid (show p.pair.1.length + p.pair.2.length ≤ 3000 by
    unfold pairFaultS keyFault at hp
    split at hp
    · cases hp
    · split at hp <;> omega)
  have mk0 : IntKind.i64.wrap ((p.steps.length : Int) - 1) = (p.steps.length : Int) - 1 := IntWalk.i64_in _ (by omega)
  have Hx := Lib.hid (fun (W : World) (hW : Below (w.heap.size + 1) (w.alloc (.cells #[.bool false, .slice A p.steps.length n, .slice K p.pair.1.length a, .slice V p.pair.2.length b] 27)) W) => box4p ((hW.block w.heap.size (by omega)).trans (box_new w _ _)))
  clear ha hK hV hs hp
  go_enter Tryd.func74, Tryd.ntmps74
  go_wp2_with ((go_at_call 105; (with_reducible refine (leafDigest_ok _ K V p.pair a b ?t1 ?t2 Hl.out).mono ?_); (case t1 => (refine HK.out.bbelow ?_; repeat' (first | exact Below.refl _ _ | assumption | refine Below.drew ?_ | refine below_drewN ?_ _ | refine Below.setCell ?_ (by first | (simp; done) | omega | (simp; omega)) _ | refine Below.alloc ?_ (by first | exact Nat.le_refl _ | omega | (simp; done) | (simp; omega)) _))); (case t2 => (refine HV.out.bbelow ?_; repeat' (first | exact Below.refl _ _ | assumption | refine Below.drew ?_ | refine below_drewN ?_ _ | refine Below.setCell ?_ (by first | (simp; done) | omega | (simp; omega)) _ | refine Below.alloc ?_ (by first | exact Nat.le_refl _ | omega | (simp; done) | (simp; omega)) _))); rintro e1 w1 ⟨B, bc, rfl, hsB, hb1'⟩; have hb1 := hb1'.mono (show w.heap.size + 1 ≤ _ by simp); obtain ⟨x0, x1, x2, x3, _⟩ := Hx.out w1 hb1; have hz1 : w.heap.size < w1.heap.size := (by have := hb1.size; simp at this; omega)))
  go_loopw [3, 4] (fun dv i wr => ∃ (k : Nat) (B : Option Addr) (b0 : Nat), k ≤ p.steps.length ∧ i = .int .i64 ((p.steps.length : Int) - 1 - (k : Int)) ∧ dv = .slice B (upTo p ((backs p.steps.length).take k)).length b0 ∧ Bs (From w.heap.size) wr B (upTo p ((backs p.steps.length).take k)) ∧ Below (w.heap.size + 1) (w.alloc (.cells #[.bool false, .slice A p.steps.length n, .slice K p.pair.1.length a, .slice V p.pair.2.length b] 27)) wr) (fun _ i _ => (intOf i + 1).toNat)
  case atStart => exact ⟨0, B, bc, Nat.zero_le _, by simp, rfl, hsB.blo (by simp), hb1⟩
  case round =>
    clear x0 x1 x2 x3 hz1 hsB hb1
    obtain ⟨k, B, b0, hk, rfl, rfl, hB, hbel⟩ := hrel
    have HB := Lib.hid hB
    have Hbel := Lib.hid hbel
    have hz := hbel.size
    simp at hz
    obtain ⟨x0, x1, x2, x3, _⟩ := Hx.out wr hbel
    have Hbw := Lib.hid (((Below.refl w.heap.size w).alloc (Nat.le_refl _) _).trans (hbel.mono (by omega)))
    clear hB hbel
    by_cases hlt : k < p.steps.length
    · have hj : p.steps.length - 1 - k < p.steps.length := by omega
      have ej : (p.steps.length : Int) - 1 - (k : Int) = ((p.steps.length - 1 - k : Nat) : Int) := by omega
      obtain ⟨g, off, Bo, bo, hA, _, hgl, q0, q1, q2, hso, _⟩ := sts_at (Ha.out.below stR_stays Hbw.out) hj
      obtain ⟨⟨hb1, hb2⟩, ho⟩ := Hs.out _ hj
      have hsn := backs_snoc hlt
      have hst' : p.steps[p.steps.length - 1 - k] = p.steps[p.steps.length - 1 - k] := rfl
      obtain ⟨dg, hdg⟩ : ∃ dg, dg = upTo p ((backs p.steps.length).take k) := ⟨_, rfl⟩
      have Hdl := Lib.hid (show dg.length = 32 by rw [hdg]; exact upTo_len _ _)
      rw [← hdg] at HB ⊢
      generalize hst0 : p.steps[p.steps.length - 1 - k] = st at q0 q1 q2 hso hb1 hb2 ho
      have hst' := hst0
      clear hst0
      obtain ⟨d, hd⟩ : ∃ d : Nat, st.bit = (d : Int) := ⟨st.bit.toNat, by omega⟩
      obtain ⟨sb, sr, so⟩ := st
      simp only [] at hd hb1 hb2 ho q0 q1 q2 hso
      subst hd
      have Ho := Lib.hid ho
      have mk : IntKind.i64.wrap ((p.steps.length : Int) - 1 - (k : Int) - 1) = (p.steps.length : Int) - 1 - ((k + 1 : Nat) : Int) := by rw [IntWalk.i64_in _ (by omega)]; omega
      subst hA
      rw [ej] at mk ⊢
      have hjz : (0 : Int) ≤ ((p.steps.length - 1 - k : Nat) : Int) := by omega
      have hjl : ((p.steps.length - 1 - k : Nat) : Int) < (p.steps.length : Int) := by omega
      clear ho ej
      cases sr with
      | true =>
        have He := Lib.hid (show upTo p ((backs p.steps.length).take (k + 1)) = forkS (d : Int) so dg by rw [hsn, upTo_snoc, hst', ← hdg]; simp [stepUp])
        clear hsn hst' hdg
        go_wp2_with (go_at_call 106; (with_reducible refine (forkDigest_ok _ Bo B d so dg bo b0 ?t1 ?t2 (by rw [Ho.out, Hdl.out]; omega) (by omega)).mono ?_); (case t1 => exact (hso.bsame ((Same.refl _ _).alloc _)).bz); (case t2 => exact (HB.out.bsame ((Same.refl _ _).alloc _)).bz); rintro e2 w2 ⟨Z, z, rfl, hsZ, hb2⟩)
        go_roundw
        case rel =>
          refine ⟨k + 1, Z, z, by omega, by simp, by rw [He.out], ?_, (Hbel.out.alloc (by omega) _).trans (hb2.mono (by simp; omega))⟩
          rw [He.out]
          exact hsZ.blo (by simp; omega)
        case measure => simp [intOf]; omega
      | false =>
        have He := Lib.hid (show upTo p ((backs p.steps.length).take (k + 1)) = forkS (d : Int) dg so by rw [hsn, upTo_snoc, hst', ← hdg]; simp [stepUp])
        clear hsn hst' hdg
        go_wp2_with (go_at_call 106; (with_reducible refine (forkDigest_ok _ B Bo d dg so b0 bo ?t1 ?t2 (by rw [Ho.out, Hdl.out]; omega) (by omega)).mono ?_); (case t1 => exact (HB.out.bsame ((Same.refl _ _).alloc _)).bz); (case t2 => exact (hso.bsame ((Same.refl _ _).alloc _)).bz); rintro e2 w2 ⟨Z, z, rfl, hsZ, hb2⟩)
        go_roundw
        case rel =>
          refine ⟨k + 1, Z, z, by omega, by simp, by rw [He.out], ?_, (Hbel.out.alloc (by omega) _).trans (hb2.mono (by simp; omega))⟩
          rw [He.out]
          exact hsZ.blo (by simp; omega)
        case measure => simp [intOf]; omega
    · obtain rfl : k = p.steps.length := by omega
      have hk0 : ¬ (0 : Int) ≤ (p.steps.length : Int) - 1 - (p.steps.length : Int) := by omega
      have hB := HB.out
      rw [List.take_of_length_le (by rw [backs_len]; omega)] at hB ⊢
      go_wp2
      go_ret
      rw [← Hu.out]
      exact ⟨B, b0, rfl, hB, Hbw.out⟩
/-- What proof.Verify and Verified answer. -/
def verifyS (r k : List UInt8) (p : Pf) : Finding × Int :=
  if r.length ≠ 32 then ((false, []), 1) else if proofFaultS k p ≠ 0 then ((false, []), proofFaultS k p) else if upS p ≠ r then ((false, []), 8) else if p.empty = true ∨ p.pair.1 ≠ k then ((false, []), 0) else ((true, p.pair.2), 0)
set_option maxRecDepth 100000 in
set_option maxHeartbeats 8000000 in
theorem verify_ok (w : World) (hT : TabsAt w) (R D A K V : Option Addr) (r k : List UInt8) (p : Pf) (rc dc n a b : Nat) (hr : Bs All w R r) (hd : Bs All w D k) (ha : Sts All w A p.steps) (hK : Bs All w K p.pair.1) (hV : Bs All w V p.pair.2) (hst : p.steps.length * 40 ≤ 140737488355328) (hl1 : p.pair.1.length ≤ big) (hl2 : p.pair.2.length ≤ big) :
    Calls Tryd.prog 31 #[.slice R r.length rc, .slice D k.length dc, .agg #[.bool p.empty, .slice A p.steps.length n, .slice K p.pair.1.length a, .slice V p.pair.2.length b]] w (RetGet w (verifyS r k p)) := by
  have HT := Lib.hid hT
  have HR := Lib.hid hr
  have HD := Lib.hid hd
  have HA := Lib.hid ha
  have HK := Lib.hid hK
  have HV := Lib.hid hV
  have Hb := Lib.hid (fun (W : World) (hW : Below (w.heap.size + 2) ((w.alloc (.cells #[.bool p.empty, .slice A p.steps.length n, .slice K p.pair.1.length a, .slice V p.pair.2.length b] 27)).alloc (.cells #[.bool false, .slice none 0 0] 29)) W) => show ((W.cell? ⟨w.heap.size, 0, none⟩ = some (.bool p.empty) ∧ W.cell? ⟨w.heap.size, 1, none⟩ = some (.slice A p.steps.length n) ∧ W.cell? ⟨w.heap.size, 2, none⟩ = some (.slice K p.pair.1.length a) ∧ W.cell? ⟨w.heap.size, 3, none⟩ = some (.slice V p.pair.2.length b) ∧ True) ∧ (W.cell? ⟨w.heap.size + 1, 0, none⟩ = some (.bool false) ∧ W.cell? ⟨w.heap.size + 1, 1, none⟩ = some (.slice none 0 0) ∧ W.frozen? ⟨w.heap.size + 1, 0, none⟩ = false ∧ W.frozen? ⟨w.heap.size + 1, 1, none⟩ = false) ∧ Below w.heap.size w W ∧ w.heap.size < W.heap.size ∧ w.heap.size + 1 < W.heap.size) from by
    obtain ⟨t1, t2, t3, t4⟩ := two_new w (.cells #[.bool p.empty, .slice A p.steps.length n, .slice K p.pair.1.length a, .slice V p.pair.2.length b] 27) (.cells #[.bool false, .slice none 0 0] 29)
    obtain ⟨z0, z1, z2, z3, _⟩ := box4p ((hW.block w.heap.size (by omega)).trans t1)
    have hs := hW.size
    exact ⟨⟨z0, z1, z2, z3, trivial⟩, box2 ((hW.block (w.heap.size + 1) (by omega)).trans t2), t4.trans (hW.mono (by omega)), by omega, by omega⟩)
  clear hr hd ha hK hV hT

  by_cases h32 : r.length = 32
  · have Hr32 := Lib.hid h32
    obtain ⟨ff, hff⟩ : ∃ ff, proofFaultS k p = ff := ⟨_, rfl⟩
    have Hf := Lib.hid hff
    have e32 : ((r.length : Int) != 32) = false := by simp [h32]
    by_cases hz : ff = 0
    · subst hz
      clear h32
      by_cases hE : p.empty = true
      · have HE := Lib.hid hE
        by_cases hu : upS p = r
        · have Hu := Lib.hid (show (upS p == r) = true by simpa using hu)
          have Hv := Lib.hid (show verifyS r k p = ((false, []), 0) by unfold verifyS; rw [if_neg (by rw [Hr32.out]; simp), if_neg (by rw [hff]; simp), if_neg (by simpa using hu), if_pos (.inl hE)])
          clear hff hE hu
          go_enter Tryd.func31, Tryd.ntmps31
          go_wp2_with (first
            | (go_at_call 65; (with_reducible refine (proofCheck_ok _ D k dc A K V p n a b ?t1 ?t2 ?t3 ?t4 hst hl1 hl2).mono ?_); (case t1 => (refine HD.out.bbelow ?_; repeat' (first | exact Below.refl _ _ | assumption | refine Below.drew ?_ | refine below_drewN ?_ _ | refine Below.setCell ?_ (by first | (simp; done) | omega | (simp; omega)) _ | refine Below.alloc ?_ (by first | exact Nat.le_refl _ | omega | (simp; done) | (simp; omega)) _))); (case t2 => (refine HA.out.below stR_stays ?_; repeat' (first | exact Below.refl _ _ | assumption | refine Below.drew ?_ | refine below_drewN ?_ _ | refine Below.setCell ?_ (by first | (simp; done) | omega | (simp; omega)) _ | refine Below.alloc ?_ (by first | exact Nat.le_refl _ | omega | (simp; done) | (simp; omega)) _))); (case t3 => (refine HK.out.bbelow ?_; repeat' (first | exact Below.refl _ _ | assumption | refine Below.drew ?_ | refine below_drewN ?_ _ | refine Below.setCell ?_ (by first | (simp; done) | omega | (simp; omega)) _ | refine Below.alloc ?_ (by first | exact Nat.le_refl _ | omega | (simp; done) | (simp; omega)) _))); (case t4 => (refine HV.out.bbelow ?_; repeat' (first | exact Below.refl _ _ | assumption | refine Below.drew ?_ | refine below_drewN ?_ _ | refine Below.setCell ?_ (by first | (simp; done) | omega | (simp; omega)) _ | refine Below.alloc ?_ (by first | exact Nat.le_refl _ | omega | (simp; done) | (simp; omega)) _))); rintro e1 w1 ⟨rfl, hb1'⟩; have hb1 := hb1'.mono (show w.heap.size + 2 ≤ _ by simp); obtain ⟨⟨p0, p1, p2, p3, _⟩, ⟨f0, f1, f2, f3⟩, hq1, hl1a, hl1b⟩ := Hb.out w1 hb1; rw [Hf.out])
            | (go_at_call 67; (with_reducible refine (upAny_ok _ ?t1 A K V p k n a b ?t2 ?t3 ?t4 Hf.out hst).mono ?_); (case t1 => exact HT.out.below hq1); (case t2 => exact HA.out.below stR_stays hq1); (case t3 => exact HK.out.bbelow hq1); (case t4 => exact HV.out.bbelow hq1); rintro e2 w2 ⟨U, u, rfl, hsu, hb2'⟩; have hb2 := hb1.next hb2' (by omega); obtain ⟨⟨p0, p1, p2, p3, _⟩, ⟨f0, f1, f2, f3⟩, hq2, hl2a, hl2b⟩ := Hb.out w2 hb2)
            | (go_at_call_of 66 U; (with_reducible refine (bytesEq_ok _ U R (upS p) r u rc ?s1 ?s2).mono ?_); (case s1 => exact hsu.bz); (case s2 => exact HR.out.bbelow hq2); rintro e4 w4 ⟨rfl, rfl⟩; rw [Hu.out]; have he := HE.out))
          all_goals
            refine bodyPost_ret (v := .tuple #[.agg #[.bool false, .slice none 0 0], .int .i64 0]) (by simp [results, Tryd.results31, go_sem, f0, f1]) rfl ?_
            rw [Hv.out]
            exact ⟨none, 0, rfl, SL.nil, by first | assumption | exact ((Below.refl w.heap.size w).alloc (Nat.le_refl _) _).alloc (by simp) _ | exact (Below.setCell (Below.setCell (by first | assumption | (refine Below.alloc (Below.alloc (Below.refl _ _) (Nat.le_refl _) _) (by simp) _)) (by simp) _) (by simp) _)⟩
        · have Hu := Lib.hid (show (upS p == r) = false by simpa using hu)
          have Hv := Lib.hid (show verifyS r k p = ((false, []), 8) by unfold verifyS; rw [if_neg (by rw [Hr32.out]; simp), if_neg (by rw [hff]; simp), if_pos hu])
          clear hff hE hu
          go_enter Tryd.func31, Tryd.ntmps31
          go_wp2_with (first
            | (go_at_call 65; (with_reducible refine (proofCheck_ok _ D k dc A K V p n a b ?t1 ?t2 ?t3 ?t4 hst hl1 hl2).mono ?_); (case t1 => (refine HD.out.bbelow ?_; repeat' (first | exact Below.refl _ _ | assumption | refine Below.drew ?_ | refine below_drewN ?_ _ | refine Below.setCell ?_ (by first | (simp; done) | omega | (simp; omega)) _ | refine Below.alloc ?_ (by first | exact Nat.le_refl _ | omega | (simp; done) | (simp; omega)) _))); (case t2 => (refine HA.out.below stR_stays ?_; repeat' (first | exact Below.refl _ _ | assumption | refine Below.drew ?_ | refine below_drewN ?_ _ | refine Below.setCell ?_ (by first | (simp; done) | omega | (simp; omega)) _ | refine Below.alloc ?_ (by first | exact Nat.le_refl _ | omega | (simp; done) | (simp; omega)) _))); (case t3 => (refine HK.out.bbelow ?_; repeat' (first | exact Below.refl _ _ | assumption | refine Below.drew ?_ | refine below_drewN ?_ _ | refine Below.setCell ?_ (by first | (simp; done) | omega | (simp; omega)) _ | refine Below.alloc ?_ (by first | exact Nat.le_refl _ | omega | (simp; done) | (simp; omega)) _))); (case t4 => (refine HV.out.bbelow ?_; repeat' (first | exact Below.refl _ _ | assumption | refine Below.drew ?_ | refine below_drewN ?_ _ | refine Below.setCell ?_ (by first | (simp; done) | omega | (simp; omega)) _ | refine Below.alloc ?_ (by first | exact Nat.le_refl _ | omega | (simp; done) | (simp; omega)) _))); rintro e1 w1 ⟨rfl, hb1'⟩; have hb1 := hb1'.mono (show w.heap.size + 2 ≤ _ by simp); obtain ⟨⟨p0, p1, p2, p3, _⟩, ⟨f0, f1, f2, f3⟩, hq1, hl1a, hl1b⟩ := Hb.out w1 hb1; rw [Hf.out])
            | (go_at_call 67; (with_reducible refine (upAny_ok _ ?t1 A K V p k n a b ?t2 ?t3 ?t4 Hf.out hst).mono ?_); (case t1 => exact HT.out.below hq1); (case t2 => exact HA.out.below stR_stays hq1); (case t3 => exact HK.out.bbelow hq1); (case t4 => exact HV.out.bbelow hq1); rintro e2 w2 ⟨U, u, rfl, hsu, hb2'⟩; have hb2 := hb1.next hb2' (by omega); obtain ⟨⟨p0, p1, p2, p3, _⟩, ⟨f0, f1, f2, f3⟩, hq2, hl2a, hl2b⟩ := Hb.out w2 hb2)
            | (go_at_call_of 66 U; (with_reducible refine (bytesEq_ok _ U R (upS p) r u rc ?s1 ?s2).mono ?_); (case s1 => exact hsu.bz); (case s2 => exact HR.out.bbelow hq2); rintro e4 w4 ⟨rfl, rfl⟩; rw [Hu.out]; have he := HE.out))
          all_goals
            refine bodyPost_ret (v := .tuple #[.agg #[.bool false, .slice none 0 0], .int .i64 8]) (by simp [results, Tryd.results31, go_sem, f0, f1]) rfl ?_
            rw [Hv.out]
            exact ⟨none, 0, rfl, SL.nil, by first | assumption | exact ((Below.refl w.heap.size w).alloc (Nat.le_refl _) _).alloc (by simp) _ | exact (Below.setCell (Below.setCell (by first | assumption | (refine Below.alloc (Below.alloc (Below.refl _ _) (Nat.le_refl _) _) (by simp) _)) (by simp) _) (by simp) _)⟩
      · have HE := Lib.hid (show p.empty = false by simpa using hE)
        have Hfine := Lib.hid (steps_fine hff HE.out)
        by_cases hu : upS p = r
        · have Hu := Lib.hid (show (upS p == r) = true by simpa using hu)
          by_cases hk : p.pair.1 = k
          · have Hkk := Lib.hid (show (p.pair.1 == k) = true by simpa using hk)
            have Hv := Lib.hid (show verifyS r k p = ((true, p.pair.2), 0) by unfold verifyS; rw [if_neg (by rw [Hr32.out]; simp), if_neg (by rw [hff]; simp), if_neg (by simpa using hu), if_neg (by simp [hE, hk])])
            clear hff hE hu hk
            go_enter Tryd.func31, Tryd.ntmps31
            go_wp2_with (first
            | (go_at_call 65; (with_reducible refine (proofCheck_ok _ D k dc A K V p n a b ?t1 ?t2 ?t3 ?t4 hst hl1 hl2).mono ?_); (case t1 => (refine HD.out.bbelow ?_; repeat' (first | exact Below.refl _ _ | assumption | refine Below.drew ?_ | refine below_drewN ?_ _ | refine Below.setCell ?_ (by first | (simp; done) | omega | (simp; omega)) _ | refine Below.alloc ?_ (by first | exact Nat.le_refl _ | omega | (simp; done) | (simp; omega)) _))); (case t2 => (refine HA.out.below stR_stays ?_; repeat' (first | exact Below.refl _ _ | assumption | refine Below.drew ?_ | refine below_drewN ?_ _ | refine Below.setCell ?_ (by first | (simp; done) | omega | (simp; omega)) _ | refine Below.alloc ?_ (by first | exact Nat.le_refl _ | omega | (simp; done) | (simp; omega)) _))); (case t3 => (refine HK.out.bbelow ?_; repeat' (first | exact Below.refl _ _ | assumption | refine Below.drew ?_ | refine below_drewN ?_ _ | refine Below.setCell ?_ (by first | (simp; done) | omega | (simp; omega)) _ | refine Below.alloc ?_ (by first | exact Nat.le_refl _ | omega | (simp; done) | (simp; omega)) _))); (case t4 => (refine HV.out.bbelow ?_; repeat' (first | exact Below.refl _ _ | assumption | refine Below.drew ?_ | refine below_drewN ?_ _ | refine Below.setCell ?_ (by first | (simp; done) | omega | (simp; omega)) _ | refine Below.alloc ?_ (by first | exact Nat.le_refl _ | omega | (simp; done) | (simp; omega)) _))); rintro e1 w1 ⟨rfl, hb1'⟩; have hb1 := hb1'.mono (show w.heap.size + 2 ≤ _ by simp); obtain ⟨⟨p0, p1, p2, p3, _⟩, ⟨f0, f1, f2, f3⟩, hq1, hl1a, hl1b⟩ := Hb.out w1 hb1; rw [Hf.out])
            | (go_at_call 67; (with_reducible refine (upAny_ok _ ?t1 A K V p k n a b ?t2 ?t3 ?t4 Hf.out hst).mono ?_); (case t1 => exact HT.out.below hq1); (case t2 => exact HA.out.below stR_stays hq1); (case t3 => exact HK.out.bbelow hq1); (case t4 => exact HV.out.bbelow hq1); rintro e2 w2 ⟨U, u, rfl, hsu, hb2'⟩; have hb2 := hb1.next hb2' (by omega); obtain ⟨⟨p0, p1, p2, p3, _⟩, ⟨f0, f1, f2, f3⟩, hq2, hl2a, hl2b⟩ := Hb.out w2 hb2)
            | (go_at_call_of 66 U; (with_reducible refine (bytesEq_ok _ U R (upS p) r u rc ?s1 ?s2).mono ?_); (case s1 => exact hsu.bz); (case s2 => exact HR.out.bbelow hq2); rintro e4 w4 ⟨rfl, rfl⟩; rw [Hu.out]; have he := HE.out)
            | (go_at_call_of 66 K; (with_reducible refine (bytesEq_ok _ K D p.pair.1 k a dc ?s1 ?s2).mono ?_); (case s1 => exact HK.out.bbelow hq2); (case s2 => exact HD.out.bbelow hq2); rintro e4 w4 ⟨rfl, rfl⟩; rw [Hkk.out])
            | (go_at_call 68; (with_reducible refine (clone_ok _ V p.pair.2 b ?t1 hl2).mono ?_); (case t1 => exact HV.out.bbelow hq2); rintro e5 w5 ⟨Z, z, rfl, hsz, hb5'⟩; have hb5 := hb2.next hb5' (by omega); obtain ⟨⟨p0, p1, p2, p3, _⟩, ⟨f0, f1, f2, f3⟩, hq5, hl5a, hl5b⟩ := Hb.out w5 hb5))
            all_goals
              refine bodyPost_ret (v := .tuple #[.agg #[.bool true, .slice Z p.pair.2.length z], .int .i64 0]) (by simp [results, Tryd.results31, go_sem, f0, f1]) rfl ?_
              rw [Hv.out]
              refine ⟨Z, z, rfl, ?_, ?_⟩
              · exact (hsz.bsame (((Same.refl _ _).setCell (fun h => by simp only [From] at h; omega) _).setCell (fun h => by simp only [From] at h; omega) _)).blo hq2.size
              · exact (hq5.setCell (by simp only []; omega) _).setCell (by simp only []; omega) _
          · have Hkk := Lib.hid (show (p.pair.1 == k) = false by simpa using hk)
            have Hv := Lib.hid (show verifyS r k p = ((false, []), 0) by unfold verifyS; rw [if_neg (by rw [Hr32.out]; simp), if_neg (by rw [hff]; simp), if_neg (by simpa using hu), if_pos (.inr hk)])
            clear hff hE hu hk
            go_enter Tryd.func31, Tryd.ntmps31
            go_wp2_with (first
            | (go_at_call 65; (with_reducible refine (proofCheck_ok _ D k dc A K V p n a b ?t1 ?t2 ?t3 ?t4 hst hl1 hl2).mono ?_); (case t1 => (refine HD.out.bbelow ?_; repeat' (first | exact Below.refl _ _ | assumption | refine Below.drew ?_ | refine below_drewN ?_ _ | refine Below.setCell ?_ (by first | (simp; done) | omega | (simp; omega)) _ | refine Below.alloc ?_ (by first | exact Nat.le_refl _ | omega | (simp; done) | (simp; omega)) _))); (case t2 => (refine HA.out.below stR_stays ?_; repeat' (first | exact Below.refl _ _ | assumption | refine Below.drew ?_ | refine below_drewN ?_ _ | refine Below.setCell ?_ (by first | (simp; done) | omega | (simp; omega)) _ | refine Below.alloc ?_ (by first | exact Nat.le_refl _ | omega | (simp; done) | (simp; omega)) _))); (case t3 => (refine HK.out.bbelow ?_; repeat' (first | exact Below.refl _ _ | assumption | refine Below.drew ?_ | refine below_drewN ?_ _ | refine Below.setCell ?_ (by first | (simp; done) | omega | (simp; omega)) _ | refine Below.alloc ?_ (by first | exact Nat.le_refl _ | omega | (simp; done) | (simp; omega)) _))); (case t4 => (refine HV.out.bbelow ?_; repeat' (first | exact Below.refl _ _ | assumption | refine Below.drew ?_ | refine below_drewN ?_ _ | refine Below.setCell ?_ (by first | (simp; done) | omega | (simp; omega)) _ | refine Below.alloc ?_ (by first | exact Nat.le_refl _ | omega | (simp; done) | (simp; omega)) _))); rintro e1 w1 ⟨rfl, hb1'⟩; have hb1 := hb1'.mono (show w.heap.size + 2 ≤ _ by simp); obtain ⟨⟨p0, p1, p2, p3, _⟩, ⟨f0, f1, f2, f3⟩, hq1, hl1a, hl1b⟩ := Hb.out w1 hb1; rw [Hf.out])
            | (go_at_call 67; (with_reducible refine (upAny_ok _ ?t1 A K V p k n a b ?t2 ?t3 ?t4 Hf.out hst).mono ?_); (case t1 => exact HT.out.below hq1); (case t2 => exact HA.out.below stR_stays hq1); (case t3 => exact HK.out.bbelow hq1); (case t4 => exact HV.out.bbelow hq1); rintro e2 w2 ⟨U, u, rfl, hsu, hb2'⟩; have hb2 := hb1.next hb2' (by omega); obtain ⟨⟨p0, p1, p2, p3, _⟩, ⟨f0, f1, f2, f3⟩, hq2, hl2a, hl2b⟩ := Hb.out w2 hb2)
            | (go_at_call_of 66 U; (with_reducible refine (bytesEq_ok _ U R (upS p) r u rc ?s1 ?s2).mono ?_); (case s1 => exact hsu.bz); (case s2 => exact HR.out.bbelow hq2); rintro e4 w4 ⟨rfl, rfl⟩; rw [Hu.out]; have he := HE.out)
            | (go_at_call_of 66 K; (with_reducible refine (bytesEq_ok _ K D p.pair.1 k a dc ?s1 ?s2).mono ?_); (case s1 => exact HK.out.bbelow hq2); (case s2 => exact HD.out.bbelow hq2); rintro e4 w4 ⟨rfl, rfl⟩; rw [Hkk.out]))
            all_goals
              refine bodyPost_ret (v := .tuple #[.agg #[.bool false, .slice none 0 0], .int .i64 0]) (by simp [results, Tryd.results31, go_sem, f0, f1]) rfl ?_
              rw [Hv.out]
              exact ⟨none, 0, rfl, SL.nil, by first | assumption | exact ((Below.refl w.heap.size w).alloc (Nat.le_refl _) _).alloc (by simp) _ | exact (Below.setCell (Below.setCell (by first | assumption | (refine Below.alloc (Below.alloc (Below.refl _ _) (Nat.le_refl _) _) (by simp) _)) (by simp) _) (by simp) _)⟩
        · have Hu := Lib.hid (show (upS p == r) = false by simpa using hu)
          have Hv := Lib.hid (show verifyS r k p = ((false, []), 8) by unfold verifyS; rw [if_neg (by rw [Hr32.out]; simp), if_neg (by rw [hff]; simp), if_pos hu])
          clear hff hE hu
          go_enter Tryd.func31, Tryd.ntmps31
          go_wp2_with (first
            | (go_at_call 65; (with_reducible refine (proofCheck_ok _ D k dc A K V p n a b ?t1 ?t2 ?t3 ?t4 hst hl1 hl2).mono ?_); (case t1 => (refine HD.out.bbelow ?_; repeat' (first | exact Below.refl _ _ | assumption | refine Below.drew ?_ | refine below_drewN ?_ _ | refine Below.setCell ?_ (by first | (simp; done) | omega | (simp; omega)) _ | refine Below.alloc ?_ (by first | exact Nat.le_refl _ | omega | (simp; done) | (simp; omega)) _))); (case t2 => (refine HA.out.below stR_stays ?_; repeat' (first | exact Below.refl _ _ | assumption | refine Below.drew ?_ | refine below_drewN ?_ _ | refine Below.setCell ?_ (by first | (simp; done) | omega | (simp; omega)) _ | refine Below.alloc ?_ (by first | exact Nat.le_refl _ | omega | (simp; done) | (simp; omega)) _))); (case t3 => (refine HK.out.bbelow ?_; repeat' (first | exact Below.refl _ _ | assumption | refine Below.drew ?_ | refine below_drewN ?_ _ | refine Below.setCell ?_ (by first | (simp; done) | omega | (simp; omega)) _ | refine Below.alloc ?_ (by first | exact Nat.le_refl _ | omega | (simp; done) | (simp; omega)) _))); (case t4 => (refine HV.out.bbelow ?_; repeat' (first | exact Below.refl _ _ | assumption | refine Below.drew ?_ | refine below_drewN ?_ _ | refine Below.setCell ?_ (by first | (simp; done) | omega | (simp; omega)) _ | refine Below.alloc ?_ (by first | exact Nat.le_refl _ | omega | (simp; done) | (simp; omega)) _))); rintro e1 w1 ⟨rfl, hb1'⟩; have hb1 := hb1'.mono (show w.heap.size + 2 ≤ _ by simp); obtain ⟨⟨p0, p1, p2, p3, _⟩, ⟨f0, f1, f2, f3⟩, hq1, hl1a, hl1b⟩ := Hb.out w1 hb1; rw [Hf.out])
            | (go_at_call 67; (with_reducible refine (upAny_ok _ ?t1 A K V p k n a b ?t2 ?t3 ?t4 Hf.out hst).mono ?_); (case t1 => exact HT.out.below hq1); (case t2 => exact HA.out.below stR_stays hq1); (case t3 => exact HK.out.bbelow hq1); (case t4 => exact HV.out.bbelow hq1); rintro e2 w2 ⟨U, u, rfl, hsu, hb2'⟩; have hb2 := hb1.next hb2' (by omega); obtain ⟨⟨p0, p1, p2, p3, _⟩, ⟨f0, f1, f2, f3⟩, hq2, hl2a, hl2b⟩ := Hb.out w2 hb2)
            | (go_at_call_of 66 U; (with_reducible refine (bytesEq_ok _ U R (upS p) r u rc ?s1 ?s2).mono ?_); (case s1 => exact hsu.bz); (case s2 => exact HR.out.bbelow hq2); rintro e4 w4 ⟨rfl, rfl⟩; rw [Hu.out]; have he := HE.out))
          all_goals
            refine bodyPost_ret (v := .tuple #[.agg #[.bool false, .slice none 0 0], .int .i64 8]) (by simp [results, Tryd.results31, go_sem, f0, f1]) rfl ?_
            rw [Hv.out]
            exact ⟨none, 0, rfl, SL.nil, by first | assumption | exact ((Below.refl w.heap.size w).alloc (Nat.le_refl _) _).alloc (by simp) _ | exact (Below.setCell (Below.setCell (by first | assumption | (refine Below.alloc (Below.alloc (Below.refl _ _) (Nat.le_refl _) _) (by simp) _)) (by simp) _) (by simp) _)⟩
    · have Hv := Lib.hid (show verifyS r k p = ((false, []), ff) by unfold verifyS; rw [if_neg (by simpa using h32), if_pos (by rw [hff]; exact hz), hff])
      have hb : (ff != 0) = true := by simpa using hz
      clear hff hz h32
      go_enter Tryd.func31, Tryd.ntmps31
      go_wp2_with ((go_at_call 65; (with_reducible refine (proofCheck_ok _ D k dc A K V p n a b ?t1 ?t2 ?t3 ?t4 hst hl1 hl2).mono ?_); (case t1 => (refine HD.out.bbelow ?_; repeat' (first | exact Below.refl _ _ | assumption | refine Below.drew ?_ | refine below_drewN ?_ _ | refine Below.setCell ?_ (by first | (simp; done) | omega | (simp; omega)) _ | refine Below.alloc ?_ (by first | exact Nat.le_refl _ | omega | (simp; done) | (simp; omega)) _))); (case t2 => (refine HA.out.below stR_stays ?_; repeat' (first | exact Below.refl _ _ | assumption | refine Below.drew ?_ | refine below_drewN ?_ _ | refine Below.setCell ?_ (by first | (simp; done) | omega | (simp; omega)) _ | refine Below.alloc ?_ (by first | exact Nat.le_refl _ | omega | (simp; done) | (simp; omega)) _))); (case t3 => (refine HK.out.bbelow ?_; repeat' (first | exact Below.refl _ _ | assumption | refine Below.drew ?_ | refine below_drewN ?_ _ | refine Below.setCell ?_ (by first | (simp; done) | omega | (simp; omega)) _ | refine Below.alloc ?_ (by first | exact Nat.le_refl _ | omega | (simp; done) | (simp; omega)) _))); (case t4 => (refine HV.out.bbelow ?_; repeat' (first | exact Below.refl _ _ | assumption | refine Below.drew ?_ | refine below_drewN ?_ _ | refine Below.setCell ?_ (by first | (simp; done) | omega | (simp; omega)) _ | refine Below.alloc ?_ (by first | exact Nat.le_refl _ | omega | (simp; done) | (simp; omega)) _))); rintro e1 w1 ⟨rfl, hb1'⟩; have hb1 := hb1'.mono (show w.heap.size + 2 ≤ _ by simp); obtain ⟨⟨p0, p1, p2, p3, _⟩, ⟨f0, f1, f2, f3⟩, hq1, hl1a, hl1b⟩ := Hb.out w1 hb1; rw [Hf.out]))
      all_goals
        refine bodyPost_ret (v := .tuple #[.agg #[.bool false, .slice none 0 0], .int .i64 ff]) (by simp [results, Tryd.results31, go_sem, f0, f1]) rfl ?_
        rw [Hv.out]
        exact ⟨none, 0, rfl, SL.nil, by first | assumption | exact ((Below.refl w.heap.size w).alloc (Nat.le_refl _) _).alloc (by simp) _ | exact (Below.setCell (Below.setCell (by first | assumption | (refine Below.alloc (Below.alloc (Below.refl _ _) (Nat.le_refl _) _) (by simp) _)) (by simp) _) (by simp) _)⟩
  · have Hv := Lib.hid (show verifyS r k p = ((false, []), 1) by unfold verifyS; rw [if_pos h32])
    have e32 : ((r.length : Int) != 32) = true := by simp; omega
    clear h32
    go_enter Tryd.func31, Tryd.ntmps31
    go_wp2
    all_goals
      refine bodyPost_ret (v := .tuple #[.agg #[.bool false, .slice none 0 0], .int .i64 1]) (by simp [results, Tryd.results31, go_sem]) rfl ?_
      rw [Hv.out]
      exact ⟨none, 0, rfl, SL.nil, by first | assumption | exact ((Below.refl w.heap.size w).alloc (Nat.le_refl _) _).alloc (by simp) _ | exact (Below.setCell (Below.setCell (by first | assumption | (refine Below.alloc (Below.alloc (Below.refl _ _) (Nat.le_refl _) _) (by simp) _)) (by simp) _) (by simp) _)⟩
set_option maxRecDepth 100000 in
set_option maxHeartbeats 8000000 in
theorem verified_ok (w : World) (R D A K V : Option Addr) (r k : List UInt8) (p : Pf) (rc dc n a b : Nat) (hr : Bs All w R r) (hd : Bs All w D k) (ha : Sts All w A p.steps) (hK : Bs All w K p.pair.1) (hV : Bs All w V p.pair.2) (hst : p.steps.length * 40 ≤ 140737488355328) (hl1 : p.pair.1.length ≤ big) (hl2 : p.pair.2.length ≤ big) :
    Calls Tryd.prog 35 #[.slice R r.length rc, .slice D k.length dc, .agg #[.bool p.empty, .slice A p.steps.length n, .slice K p.pair.1.length a, .slice V p.pair.2.length b]] w (RetGet w (verifyS r k p)) := by
  have HR := Lib.hid hr
  have HD := Lib.hid hd
  have HA := Lib.hid ha
  have HK := Lib.hid hK
  have HV := Lib.hid hV
  have Hb := Lib.hid (fun (W : World) (hW : Below (w.heap.size + 2) ((w.alloc (.cells #[.bool p.empty, .slice A p.steps.length n, .slice K p.pair.1.length a, .slice V p.pair.2.length b] 27)).alloc (.cells #[.bool false, .slice none 0 0] 29)) W) => show ((W.cell? ⟨w.heap.size, 0, none⟩ = some (.bool p.empty) ∧ W.cell? ⟨w.heap.size, 1, none⟩ = some (.slice A p.steps.length n) ∧ W.cell? ⟨w.heap.size, 2, none⟩ = some (.slice K p.pair.1.length a) ∧ W.cell? ⟨w.heap.size, 3, none⟩ = some (.slice V p.pair.2.length b) ∧ True) ∧ (W.cell? ⟨w.heap.size + 1, 0, none⟩ = some (.bool false) ∧ W.cell? ⟨w.heap.size + 1, 1, none⟩ = some (.slice none 0 0) ∧ W.frozen? ⟨w.heap.size + 1, 0, none⟩ = false ∧ W.frozen? ⟨w.heap.size + 1, 1, none⟩ = false) ∧ Below w.heap.size w W ∧ w.heap.size < W.heap.size ∧ w.heap.size + 1 < W.heap.size) from by
    obtain ⟨t1, t2, t3, t4⟩ := two_new w (.cells #[.bool p.empty, .slice A p.steps.length n, .slice K p.pair.1.length a, .slice V p.pair.2.length b] 27) (.cells #[.bool false, .slice none 0 0] 29)
    obtain ⟨z0, z1, z2, z3, _⟩ := box4p ((hW.block w.heap.size (by omega)).trans t1)
    have hs := hW.size
    exact ⟨⟨z0, z1, z2, z3, trivial⟩, box2 ((hW.block (w.heap.size + 1) (by omega)).trans t2), t4.trans (hW.mono (by omega)), by omega, by omega⟩)
  clear hr hd ha hK hV

  by_cases h32 : r.length = 32
  · have Hr32 := Lib.hid h32
    obtain ⟨ff, hff⟩ : ∃ ff, proofFaultS k p = ff := ⟨_, rfl⟩
    have Hf := Lib.hid hff
    have e32 : ((r.length : Int) != 32) = false := by simp [h32]
    by_cases hz : ff = 0
    · subst hz
      clear h32
      by_cases hE : p.empty = true
      · have HE := Lib.hid hE
        by_cases hu : upS p = r
        · have Hu := Lib.hid (show (upS p == r) = true by simpa using hu)
          have Hv := Lib.hid (show verifyS r k p = ((false, []), 0) by unfold verifyS; rw [if_neg (by rw [Hr32.out]; simp), if_neg (by rw [hff]; simp), if_neg (by simpa using hu), if_pos (.inl hE)])
          clear hff hE hu
          go_enter Tryd.func35, Tryd.ntmps35
          go_wp2_with (first
            | (go_at_call 73; (with_reducible refine (proofFault_ok _ D k dc A K V p n a b ?t1 ?t2 ?t3 hst).mono ?_); (case t1 => (refine HD.out.bbelow ?_; repeat' (first | exact Below.refl _ _ | assumption | refine Below.drew ?_ | refine below_drewN ?_ _ | refine Below.setCell ?_ (by first | (simp; done) | omega | (simp; omega)) _ | refine Below.alloc ?_ (by first | exact Nat.le_refl _ | omega | (simp; done) | (simp; omega)) _))); (case t2 => (refine HA.out.below stR_stays ?_; repeat' (first | exact Below.refl _ _ | assumption | refine Below.drew ?_ | refine below_drewN ?_ _ | refine Below.setCell ?_ (by first | (simp; done) | omega | (simp; omega)) _ | refine Below.alloc ?_ (by first | exact Nat.le_refl _ | omega | (simp; done) | (simp; omega)) _))); (case t3 => (refine HK.out.bbelow ?_; repeat' (first | exact Below.refl _ _ | assumption | refine Below.drew ?_ | refine below_drewN ?_ _ | refine Below.setCell ?_ (by first | (simp; done) | omega | (simp; omega)) _ | refine Below.alloc ?_ (by first | exact Nat.le_refl _ | omega | (simp; done) | (simp; omega)) _))); rintro e1 w1 ⟨rfl, hb1'⟩; have hb1 := hb1'.mono (show w.heap.size + 2 ≤ _ by simp); obtain ⟨⟨p0, p1, p2, p3, _⟩, ⟨f0, f1, f2, f3⟩, hq1, hl1a, hl1b⟩ := Hb.out w1 hb1; rw [Hf.out]; have he := HE.out)
            | (go_at_call 36; (with_reducible refine (noneIs_ok _ p HE.out).mono ?_); rintro e2 w2 ⟨U, u, rfl, hsu, hb2'⟩; have hb2 := hb1.next hb2' (by omega); obtain ⟨⟨p0, p1, p2, p3, _⟩, ⟨f0, f1, f2, f3⟩, hq2, hl2a, hl2b⟩ := Hb.out w2 hb2)
            | (go_at_call_of 75 U; (with_reducible refine (refSameBytes_ok _ U R (upS p) r u rc ?s1 ?s2).mono ?_); (case s1 => exact hsu.bz); (case s2 => exact HR.out.bbelow hq2); rintro e4 w4 ⟨rfl, rfl⟩; rw [Hu.out]))
          all_goals
            refine bodyPost_ret (v := .tuple #[.agg #[.bool false, .slice none 0 0], .int .i64 0]) (by simp [results, Tryd.results35, go_sem, f0, f1]) rfl ?_
            rw [Hv.out]
            exact ⟨none, 0, rfl, SL.nil, by first | assumption | exact ((Below.refl w.heap.size w).alloc (Nat.le_refl _) _).alloc (by simp) _ | exact (Below.setCell (Below.setCell (by first | assumption | (refine Below.alloc (Below.alloc (Below.refl _ _) (Nat.le_refl _) _) (by simp) _)) (by simp) _) (by simp) _)⟩
        · have Hu := Lib.hid (show (upS p == r) = false by simpa using hu)
          have Hv := Lib.hid (show verifyS r k p = ((false, []), 8) by unfold verifyS; rw [if_neg (by rw [Hr32.out]; simp), if_neg (by rw [hff]; simp), if_pos hu])
          clear hff hE hu
          go_enter Tryd.func35, Tryd.ntmps35
          go_wp2_with (first
            | (go_at_call 73; (with_reducible refine (proofFault_ok _ D k dc A K V p n a b ?t1 ?t2 ?t3 hst).mono ?_); (case t1 => (refine HD.out.bbelow ?_; repeat' (first | exact Below.refl _ _ | assumption | refine Below.drew ?_ | refine below_drewN ?_ _ | refine Below.setCell ?_ (by first | (simp; done) | omega | (simp; omega)) _ | refine Below.alloc ?_ (by first | exact Nat.le_refl _ | omega | (simp; done) | (simp; omega)) _))); (case t2 => (refine HA.out.below stR_stays ?_; repeat' (first | exact Below.refl _ _ | assumption | refine Below.drew ?_ | refine below_drewN ?_ _ | refine Below.setCell ?_ (by first | (simp; done) | omega | (simp; omega)) _ | refine Below.alloc ?_ (by first | exact Nat.le_refl _ | omega | (simp; done) | (simp; omega)) _))); (case t3 => (refine HK.out.bbelow ?_; repeat' (first | exact Below.refl _ _ | assumption | refine Below.drew ?_ | refine below_drewN ?_ _ | refine Below.setCell ?_ (by first | (simp; done) | omega | (simp; omega)) _ | refine Below.alloc ?_ (by first | exact Nat.le_refl _ | omega | (simp; done) | (simp; omega)) _))); rintro e1 w1 ⟨rfl, hb1'⟩; have hb1 := hb1'.mono (show w.heap.size + 2 ≤ _ by simp); obtain ⟨⟨p0, p1, p2, p3, _⟩, ⟨f0, f1, f2, f3⟩, hq1, hl1a, hl1b⟩ := Hb.out w1 hb1; rw [Hf.out]; have he := HE.out)
            | (go_at_call 36; (with_reducible refine (noneIs_ok _ p HE.out).mono ?_); rintro e2 w2 ⟨U, u, rfl, hsu, hb2'⟩; have hb2 := hb1.next hb2' (by omega); obtain ⟨⟨p0, p1, p2, p3, _⟩, ⟨f0, f1, f2, f3⟩, hq2, hl2a, hl2b⟩ := Hb.out w2 hb2)
            | (go_at_call_of 75 U; (with_reducible refine (refSameBytes_ok _ U R (upS p) r u rc ?s1 ?s2).mono ?_); (case s1 => exact hsu.bz); (case s2 => exact HR.out.bbelow hq2); rintro e4 w4 ⟨rfl, rfl⟩; rw [Hu.out]))
          all_goals
            refine bodyPost_ret (v := .tuple #[.agg #[.bool false, .slice none 0 0], .int .i64 8]) (by simp [results, Tryd.results35, go_sem, f0, f1]) rfl ?_
            rw [Hv.out]
            exact ⟨none, 0, rfl, SL.nil, by first | assumption | exact ((Below.refl w.heap.size w).alloc (Nat.le_refl _) _).alloc (by simp) _ | exact (Below.setCell (Below.setCell (by first | assumption | (refine Below.alloc (Below.alloc (Below.refl _ _) (Nat.le_refl _) _) (by simp) _)) (by simp) _) (by simp) _)⟩
      · have HE := Lib.hid (show p.empty = false by simpa using hE)
        have Hfine := Lib.hid (steps_fine hff HE.out)
        by_cases hu : upS p = r
        · have Hu := Lib.hid (show (upS p == r) = true by simpa using hu)
          by_cases hk : p.pair.1 = k
          · have Hkk := Lib.hid (show (p.pair.1 == k) = true by simpa using hk)
            have Hv := Lib.hid (show verifyS r k p = ((true, p.pair.2), 0) by unfold verifyS; rw [if_neg (by rw [Hr32.out]; simp), if_neg (by rw [hff]; simp), if_neg (by simpa using hu), if_neg (by simp [hE, hk])])
            clear hff hE hu hk
            go_enter Tryd.func35, Tryd.ntmps35
            go_wp2_with (first
            | (go_at_call 73; (with_reducible refine (proofFault_ok _ D k dc A K V p n a b ?t1 ?t2 ?t3 hst).mono ?_); (case t1 => (refine HD.out.bbelow ?_; repeat' (first | exact Below.refl _ _ | assumption | refine Below.drew ?_ | refine below_drewN ?_ _ | refine Below.setCell ?_ (by first | (simp; done) | omega | (simp; omega)) _ | refine Below.alloc ?_ (by first | exact Nat.le_refl _ | omega | (simp; done) | (simp; omega)) _))); (case t2 => (refine HA.out.below stR_stays ?_; repeat' (first | exact Below.refl _ _ | assumption | refine Below.drew ?_ | refine below_drewN ?_ _ | refine Below.setCell ?_ (by first | (simp; done) | omega | (simp; omega)) _ | refine Below.alloc ?_ (by first | exact Nat.le_refl _ | omega | (simp; done) | (simp; omega)) _))); (case t3 => (refine HK.out.bbelow ?_; repeat' (first | exact Below.refl _ _ | assumption | refine Below.drew ?_ | refine below_drewN ?_ _ | refine Below.setCell ?_ (by first | (simp; done) | omega | (simp; omega)) _ | refine Below.alloc ?_ (by first | exact Nat.le_refl _ | omega | (simp; done) | (simp; omega)) _))); rintro e1 w1 ⟨rfl, hb1'⟩; have hb1 := hb1'.mono (show w.heap.size + 2 ≤ _ by simp); obtain ⟨⟨p0, p1, p2, p3, _⟩, ⟨f0, f1, f2, f3⟩, hq1, hl1a, hl1b⟩ := Hb.out w1 hb1; rw [Hf.out]; have he := HE.out)
            | (go_at_call 36; (with_reducible refine (noneDigest_ok _).mono ?_); rintro e3 w3 ⟨U3, u3, rfl, hsu3, hb3'⟩; have hb3 := hb1.next hb3' (by omega); obtain ⟨⟨p0, p1, p2, p3, _⟩, ⟨f0, f1, f2, f3⟩, hq3, hl3a, hl3b⟩ := Hb.out w3 hb3)
            | (go_at_call 74; (with_reducible refine (digestUp_ok _ A K V p n a b ?t2 ?t3 ?t4 HE.out Hfine.out.1 hst Hfine.out.2).mono ?_); (case t2 => exact HA.out.below stR_stays hq3); (case t3 => exact HK.out.bbelow hq3); (case t4 => exact HV.out.bbelow hq3); rintro e2 w2 ⟨U, u, rfl, hsu, hb2'⟩; have hb2 := hb3.next hb2' (by omega); obtain ⟨⟨p0, p1, p2, p3, _⟩, ⟨f0, f1, f2, f3⟩, hq2, hl2a, hl2b⟩ := Hb.out w2 hb2)
            | (go_at_call_of 75 U; (with_reducible refine (refSameBytes_ok _ U R (upS p) r u rc ?s1 ?s2).mono ?_); (case s1 => exact hsu.bz); (case s2 => exact HR.out.bbelow hq2); rintro e4 w4 ⟨rfl, rfl⟩; rw [Hu.out])
            | (go_at_call_of 75 K; (with_reducible refine (refSameBytes_ok _ K D p.pair.1 k a dc ?s1 ?s2).mono ?_); (case s1 => exact HK.out.bbelow hq2); (case s2 => exact HD.out.bbelow hq2); rintro e4 w4 ⟨rfl, rfl⟩; rw [Hkk.out])
            | (go_at_call 55; (with_reducible refine (joinedNil_ok _ V p.pair.2 b ?t1 hl2).mono ?_); (case t1 => exact HV.out.bbelow hq2); rintro e5 w5 ⟨Z, z, rfl, hsz, hb5'⟩; have hb5 := hb2.next hb5' (by omega); obtain ⟨⟨p0, p1, p2, p3, _⟩, ⟨f0, f1, f2, f3⟩, hq5, hl5a, hl5b⟩ := Hb.out w5 hb5))
            all_goals
              refine bodyPost_ret (v := .tuple #[.agg #[.bool true, .slice Z p.pair.2.length z], .int .i64 0]) (by simp [results, Tryd.results35, go_sem, f0, f1]) rfl ?_
              rw [Hv.out]
              refine ⟨Z, z, rfl, ?_, ?_⟩
              · exact (hsz.bsame (((Same.refl _ _).setCell (fun h => by simp only [From] at h; omega) _).setCell (fun h => by simp only [From] at h; omega) _)).blo hq2.size
              · exact (hq5.setCell (by simp only []; omega) _).setCell (by simp only []; omega) _
          · have Hkk := Lib.hid (show (p.pair.1 == k) = false by simpa using hk)
            have Hv := Lib.hid (show verifyS r k p = ((false, []), 0) by unfold verifyS; rw [if_neg (by rw [Hr32.out]; simp), if_neg (by rw [hff]; simp), if_neg (by simpa using hu), if_pos (.inr hk)])
            clear hff hE hu hk
            go_enter Tryd.func35, Tryd.ntmps35
            go_wp2_with (first
            | (go_at_call 73; (with_reducible refine (proofFault_ok _ D k dc A K V p n a b ?t1 ?t2 ?t3 hst).mono ?_); (case t1 => (refine HD.out.bbelow ?_; repeat' (first | exact Below.refl _ _ | assumption | refine Below.drew ?_ | refine below_drewN ?_ _ | refine Below.setCell ?_ (by first | (simp; done) | omega | (simp; omega)) _ | refine Below.alloc ?_ (by first | exact Nat.le_refl _ | omega | (simp; done) | (simp; omega)) _))); (case t2 => (refine HA.out.below stR_stays ?_; repeat' (first | exact Below.refl _ _ | assumption | refine Below.drew ?_ | refine below_drewN ?_ _ | refine Below.setCell ?_ (by first | (simp; done) | omega | (simp; omega)) _ | refine Below.alloc ?_ (by first | exact Nat.le_refl _ | omega | (simp; done) | (simp; omega)) _))); (case t3 => (refine HK.out.bbelow ?_; repeat' (first | exact Below.refl _ _ | assumption | refine Below.drew ?_ | refine below_drewN ?_ _ | refine Below.setCell ?_ (by first | (simp; done) | omega | (simp; omega)) _ | refine Below.alloc ?_ (by first | exact Nat.le_refl _ | omega | (simp; done) | (simp; omega)) _))); rintro e1 w1 ⟨rfl, hb1'⟩; have hb1 := hb1'.mono (show w.heap.size + 2 ≤ _ by simp); obtain ⟨⟨p0, p1, p2, p3, _⟩, ⟨f0, f1, f2, f3⟩, hq1, hl1a, hl1b⟩ := Hb.out w1 hb1; rw [Hf.out]; have he := HE.out)
            | (go_at_call 36; (with_reducible refine (noneDigest_ok _).mono ?_); rintro e3 w3 ⟨U3, u3, rfl, hsu3, hb3'⟩; have hb3 := hb1.next hb3' (by omega); obtain ⟨⟨p0, p1, p2, p3, _⟩, ⟨f0, f1, f2, f3⟩, hq3, hl3a, hl3b⟩ := Hb.out w3 hb3)
            | (go_at_call 74; (with_reducible refine (digestUp_ok _ A K V p n a b ?t2 ?t3 ?t4 HE.out Hfine.out.1 hst Hfine.out.2).mono ?_); (case t2 => exact HA.out.below stR_stays hq3); (case t3 => exact HK.out.bbelow hq3); (case t4 => exact HV.out.bbelow hq3); rintro e2 w2 ⟨U, u, rfl, hsu, hb2'⟩; have hb2 := hb3.next hb2' (by omega); obtain ⟨⟨p0, p1, p2, p3, _⟩, ⟨f0, f1, f2, f3⟩, hq2, hl2a, hl2b⟩ := Hb.out w2 hb2)
            | (go_at_call_of 75 U; (with_reducible refine (refSameBytes_ok _ U R (upS p) r u rc ?s1 ?s2).mono ?_); (case s1 => exact hsu.bz); (case s2 => exact HR.out.bbelow hq2); rintro e4 w4 ⟨rfl, rfl⟩; rw [Hu.out])
            | (go_at_call_of 75 K; (with_reducible refine (refSameBytes_ok _ K D p.pair.1 k a dc ?s1 ?s2).mono ?_); (case s1 => exact HK.out.bbelow hq2); (case s2 => exact HD.out.bbelow hq2); rintro e4 w4 ⟨rfl, rfl⟩; rw [Hkk.out]))
            all_goals
              refine bodyPost_ret (v := .tuple #[.agg #[.bool false, .slice none 0 0], .int .i64 0]) (by simp [results, Tryd.results35, go_sem, f0, f1]) rfl ?_
              rw [Hv.out]
              exact ⟨none, 0, rfl, SL.nil, by first | assumption | exact ((Below.refl w.heap.size w).alloc (Nat.le_refl _) _).alloc (by simp) _ | exact (Below.setCell (Below.setCell (by first | assumption | (refine Below.alloc (Below.alloc (Below.refl _ _) (Nat.le_refl _) _) (by simp) _)) (by simp) _) (by simp) _)⟩
        · have Hu := Lib.hid (show (upS p == r) = false by simpa using hu)
          have Hv := Lib.hid (show verifyS r k p = ((false, []), 8) by unfold verifyS; rw [if_neg (by rw [Hr32.out]; simp), if_neg (by rw [hff]; simp), if_pos hu])
          clear hff hE hu
          go_enter Tryd.func35, Tryd.ntmps35
          go_wp2_with (first
            | (go_at_call 73; (with_reducible refine (proofFault_ok _ D k dc A K V p n a b ?t1 ?t2 ?t3 hst).mono ?_); (case t1 => (refine HD.out.bbelow ?_; repeat' (first | exact Below.refl _ _ | assumption | refine Below.drew ?_ | refine below_drewN ?_ _ | refine Below.setCell ?_ (by first | (simp; done) | omega | (simp; omega)) _ | refine Below.alloc ?_ (by first | exact Nat.le_refl _ | omega | (simp; done) | (simp; omega)) _))); (case t2 => (refine HA.out.below stR_stays ?_; repeat' (first | exact Below.refl _ _ | assumption | refine Below.drew ?_ | refine below_drewN ?_ _ | refine Below.setCell ?_ (by first | (simp; done) | omega | (simp; omega)) _ | refine Below.alloc ?_ (by first | exact Nat.le_refl _ | omega | (simp; done) | (simp; omega)) _))); (case t3 => (refine HK.out.bbelow ?_; repeat' (first | exact Below.refl _ _ | assumption | refine Below.drew ?_ | refine below_drewN ?_ _ | refine Below.setCell ?_ (by first | (simp; done) | omega | (simp; omega)) _ | refine Below.alloc ?_ (by first | exact Nat.le_refl _ | omega | (simp; done) | (simp; omega)) _))); rintro e1 w1 ⟨rfl, hb1'⟩; have hb1 := hb1'.mono (show w.heap.size + 2 ≤ _ by simp); obtain ⟨⟨p0, p1, p2, p3, _⟩, ⟨f0, f1, f2, f3⟩, hq1, hl1a, hl1b⟩ := Hb.out w1 hb1; rw [Hf.out]; have he := HE.out)
            | (go_at_call 36; (with_reducible refine (noneDigest_ok _).mono ?_); rintro e3 w3 ⟨U3, u3, rfl, hsu3, hb3'⟩; have hb3 := hb1.next hb3' (by omega); obtain ⟨⟨p0, p1, p2, p3, _⟩, ⟨f0, f1, f2, f3⟩, hq3, hl3a, hl3b⟩ := Hb.out w3 hb3)
            | (go_at_call 74; (with_reducible refine (digestUp_ok _ A K V p n a b ?t2 ?t3 ?t4 HE.out Hfine.out.1 hst Hfine.out.2).mono ?_); (case t2 => exact HA.out.below stR_stays hq3); (case t3 => exact HK.out.bbelow hq3); (case t4 => exact HV.out.bbelow hq3); rintro e2 w2 ⟨U, u, rfl, hsu, hb2'⟩; have hb2 := hb3.next hb2' (by omega); obtain ⟨⟨p0, p1, p2, p3, _⟩, ⟨f0, f1, f2, f3⟩, hq2, hl2a, hl2b⟩ := Hb.out w2 hb2)
            | (go_at_call_of 75 U; (with_reducible refine (refSameBytes_ok _ U R (upS p) r u rc ?s1 ?s2).mono ?_); (case s1 => exact hsu.bz); (case s2 => exact HR.out.bbelow hq2); rintro e4 w4 ⟨rfl, rfl⟩; rw [Hu.out]))
          all_goals
            refine bodyPost_ret (v := .tuple #[.agg #[.bool false, .slice none 0 0], .int .i64 8]) (by simp [results, Tryd.results35, go_sem, f0, f1]) rfl ?_
            rw [Hv.out]
            exact ⟨none, 0, rfl, SL.nil, by first | assumption | exact ((Below.refl w.heap.size w).alloc (Nat.le_refl _) _).alloc (by simp) _ | exact (Below.setCell (Below.setCell (by first | assumption | (refine Below.alloc (Below.alloc (Below.refl _ _) (Nat.le_refl _) _) (by simp) _)) (by simp) _) (by simp) _)⟩
    · have Hv := Lib.hid (show verifyS r k p = ((false, []), ff) by unfold verifyS; rw [if_neg (by simpa using h32), if_pos (by rw [hff]; exact hz), hff])
      have hb : (ff != 0) = true := by simpa using hz
      clear hff hz h32
      go_enter Tryd.func35, Tryd.ntmps35
      go_wp2_with ((go_at_call 73; (with_reducible refine (proofFault_ok _ D k dc A K V p n a b ?t1 ?t2 ?t3 hst).mono ?_); (case t1 => (refine HD.out.bbelow ?_; repeat' (first | exact Below.refl _ _ | assumption | refine Below.drew ?_ | refine below_drewN ?_ _ | refine Below.setCell ?_ (by first | (simp; done) | omega | (simp; omega)) _ | refine Below.alloc ?_ (by first | exact Nat.le_refl _ | omega | (simp; done) | (simp; omega)) _))); (case t2 => (refine HA.out.below stR_stays ?_; repeat' (first | exact Below.refl _ _ | assumption | refine Below.drew ?_ | refine below_drewN ?_ _ | refine Below.setCell ?_ (by first | (simp; done) | omega | (simp; omega)) _ | refine Below.alloc ?_ (by first | exact Nat.le_refl _ | omega | (simp; done) | (simp; omega)) _))); (case t3 => (refine HK.out.bbelow ?_; repeat' (first | exact Below.refl _ _ | assumption | refine Below.drew ?_ | refine below_drewN ?_ _ | refine Below.setCell ?_ (by first | (simp; done) | omega | (simp; omega)) _ | refine Below.alloc ?_ (by first | exact Nat.le_refl _ | omega | (simp; done) | (simp; omega)) _))); rintro e1 w1 ⟨rfl, hb1'⟩; have hb1 := hb1'.mono (show w.heap.size + 2 ≤ _ by simp); obtain ⟨⟨p0, p1, p2, p3, _⟩, ⟨f0, f1, f2, f3⟩, hq1, hl1a, hl1b⟩ := Hb.out w1 hb1; rw [Hf.out]))
      all_goals
        refine bodyPost_ret (v := .tuple #[.agg #[.bool false, .slice none 0 0], .int .i64 ff]) (by simp [results, Tryd.results35, go_sem, f0, f1]) rfl ?_
        rw [Hv.out]
        exact ⟨none, 0, rfl, SL.nil, by first | assumption | exact ((Below.refl w.heap.size w).alloc (Nat.le_refl _) _).alloc (by simp) _ | exact (Below.setCell (Below.setCell (by first | assumption | (refine Below.alloc (Below.alloc (Below.refl _ _) (Nat.le_refl _) _) (by simp) _)) (by simp) _) (by simp) _)⟩
  · have Hv := Lib.hid (show verifyS r k p = ((false, []), 1) by unfold verifyS; rw [if_pos h32])
    have e32 : ((r.length : Int) != 32) = true := by simp; omega
    clear h32
    go_enter Tryd.func35, Tryd.ntmps35
    go_wp2
    all_goals
      refine bodyPost_ret (v := .tuple #[.agg #[.bool false, .slice none 0 0], .int .i64 1]) (by simp [results, Tryd.results35, go_sem]) rfl ?_
      rw [Hv.out]
      exact ⟨none, 0, rfl, SL.nil, by first | assumption | exact ((Below.refl w.heap.size w).alloc (Nat.le_refl _) _).alloc (by simp) _ | exact (Below.setCell (Below.setCell (by first | assumption | (refine Below.alloc (Below.alloc (Below.refl _ _) (Nat.le_refl _) _) (by simp) _)) (by simp) _) (by simp) _)⟩
end Go.Proofs.YteacjkihjeiafaaDoor
namespace Go.Proofs.YteacjkihjeiafaaDoor
open Go.RowKit
set_option linter.unusedVariables false
set_option linter.unusedSimpArgs false

theorem abs2v {P : World → Prop} (W : World) (h : ∀ WF, W = WF → P WF) : P W := h W rfl
/-- A finding in a variable of its own. -/
structure VerF (w0 WF : World) (G : Nat) (A5 : Option Addr) (c5 : Nat) (f : Finding) : Prop where
  b : Below w0.heap.size w0 WF
  g : WF.heap[G]? = some (.cells #[.bool f.1, .slice A5 f.2.length c5] 29 (0, 0))
  s : Bs All WF A5 f.2
end Go.Proofs.YteacjkihjeiafaaDoor
