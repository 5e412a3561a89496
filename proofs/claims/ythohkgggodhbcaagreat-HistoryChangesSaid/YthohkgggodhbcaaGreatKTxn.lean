/- Txn: Reads: words for memory; what is refused of one; sameness; copies. Transactions: words for memory; what is refused of one, by the references. Reads and writes copied: ReadCopy, and the program's read. Walk: TxnCopy. Walks: sameRead and sameTxn of the laws' package. The conditions of each are in its words. -/
import Derived.Test.YthohkgggodhbcaaGreatKForestW
import Derived.Test.YthohkgggodhbcaaGreatKBase
import Derived.Test.YthohkgggodhbcaaGreatKForest
namespace Go.Proofs.YthohkgggodhbcaaGreat
open Go.RowKit
set_option linter.unusedVariables false
set_option linter.unusedSimpArgs false

/-- A read is held in the same words as a write: flag is Wide, value is Last. -/
def readFaultS (x : Wr) : Int :=
  if nameFault x.name ≠ 0 then nameFault x.name else if keyFault x.key ≠ 0 then keyFault x.key else if x.flag = true then keyFault x.value else if 0 < x.value.length then 4 else 0
/-- Are two reads the same? -/
def sameRd (x y : Wr) : Bool := x.flag == y.flag && (x.name == y.name && (x.key == y.key && x.value == y.value))
/-- Do two writes go to one place? -/
def samePl (x y : Wr) : Bool := x.name == y.name && x.key == y.key
theorem sameRd_eq (x y : Wr) : sameRd x y = true ↔ x = y := by
  obtain ⟨a, b, c, d⟩ := x
  obtain ⟨a', b', c', d'⟩ := y
  simp only [sameRd, Bool.and_eq_true, beq_iff_eq, Wr.mk.injEq]
  constructor
  · rintro ⟨h1, h2, h3, h4⟩; exact ⟨h2, h3, h1, h4⟩
  · rintro ⟨h2, h3, h1, h4⟩; exact ⟨h1, h2, h3, h4⟩

theorem bytesEqual_ok (w : World) (A B : Option Addr) (a b : List UInt8) (c d : Nat) (ha : Bs All w A a) (hb : Bs All w B b) :
    Calls Tryz.prog 13 #[.slice A a.length c, .slice B b.length d] w fun e w' => e = .returned (.bool (a == b)) ∧ w = w' := by
  have h1 := conv_str ha 38 9 5 c Tryz.underlying38 Tryz.underlying5 Tryz.underlying9
  have h2 := conv_str hb 38 9 5 d Tryz.underlying38 Tryz.underlying5 Tryz.underlying9
  clear ha hb
  go_enter Tryz.func13, Tryz.ntmps13
  go_wp2
  go_ret
  exact ⟨rfl, rfl⟩

end Go.Proofs.YthohkgggodhbcaaGreat
namespace Go.Proofs.YthohkgggodhbcaaGreat
open Go.RowKit
set_option linter.unusedVariables false
set_option linter.unusedSimpArgs false

structure Tx where
  start : Int
  reads : List Wr
  writes : List Wr
/-- The three cells of a transaction. -/
def TxR (S : Nat → Prop) (w : World) (cs : List Value) (t : Tx) : Prop :=
  ∃ A n B m, cs = [.int .i64 t.start, .slice A t.reads.length n, .slice B t.writes.length m] ∧ Ws S w A t.reads ∧ Ws S w B t.writes ∧ t.reads.length * 80 ≤ 140737488355328 ∧ t.writes.length * 80 ≤ 140737488355328 ∧ t.reads.length ≤ n ∧ t.writes.length ≤ m
theorem box3 {w : World} {g : Nat} {t : TypeId} {a b c : Value} (h : w.heap[g]? = some (.cells #[a, b, c] t (0, 0))) :
    w.cell? ⟨g, 0, none⟩ = some a ∧ w.cell? ⟨g, 1, none⟩ = some b ∧ w.cell? ⟨g, 2, none⟩ = some c ∧ w.frozen? ⟨g, 0, none⟩ = false ∧ w.frozen? ⟨g, 1, none⟩ = false ∧ w.frozen? ⟨g, 2, none⟩ = false :=
  ⟨box_cell (cs := [a, b, c]) h 0, box_cell (cs := [a, b, c]) h 1, box_cell (cs := [a, b, c]) h 2, box_frozen (cs := [a, b, c]) h 0, box_frozen (cs := [a, b, c]) h 1, box_frozen (cs := [a, b, c]) h 2⟩
/-- A fault, or that one of the first j is the same. -/
def stepE (q : Wr → Bool) (f : Int) (l : List Wr) (j : Nat) : Int := if f ≠ 0 then f else if (l.take j).any q then 3 else 0
theorem stepE_zero (q : Wr → Bool) (f : Int) (l : List Wr) : stepE q f l 0 = f := by
  unfold stepE
  by_cases h : f = 0 <;> simp [h]
theorem stepE_hit {q : Wr → Bool} {f : Int} {l : List Wr} {j : Nat} (h : stepE q f l j = 0) (hj : j < l.length) (hq : q l[j] = true) : stepE q f l (j + 1) = 3 := by
  unfold stepE at h ⊢
  by_cases hf : f = 0
  · simp only [hf, ne_eq, not_true_eq_false, if_false] at h ⊢
    rw [take_snoc l j hj, List.any_append]
    simp [hq]
  · simp [hf] at h
theorem stepE_miss {q : Wr → Bool} {f : Int} {l : List Wr} {j : Nat} (h : stepE q f l j = 0) (hj : j < l.length) (hq : q l[j] = false) : stepE q f l (j + 1) = 0 := by
  unfold stepE at h ⊢
  by_cases hf : f = 0
  · simp only [hf, ne_eq, not_true_eq_false, if_false] at h ⊢
    rw [take_snoc l j hj, List.any_append]
    by_cases ha : (l.take j).any q = true
    · simp [ha] at h
    · simp [hq, Bool.not_eq_true _ ▸ ha]
  · simp [hf] at h
theorem stepE_end {q : Wr → Bool} {f : Int} {l : List Wr} {j k : Nat} (hj : j ≤ k) (h : stepE q f l j ≠ 0) : stepE q f l k = stepE q f l j := by
  unfold stepE at h ⊢
  by_cases hf : f = 0
  · simp only [hf, ne_eq, not_true_eq_false, if_false] at h ⊢
    by_cases ha : (l.take j).any q = true
    · have hk : (l.take k).any q = true := by
        rw [List.any_eq_true] at ha ⊢
        obtain ⟨x, hx, hq⟩ := ha
        exact ⟨x, (List.take_sublist_take_left hj).subset hx, hq⟩
      rw [if_pos ha, if_pos hk]
    · rw [if_neg ha] at h
      exact absurd rfl h
  · simp [hf]
/-- What is refused at a place of a list in which none may come twice. -/
def placeAt (fault : Wr → Int) (same : Wr → Wr → Bool) (l : List Wr) (i : Nat) : Int := stepE (fun y => same y (l.getD i ⟨[], [], false, []⟩)) (fault (l.getD i ⟨[], [], false, []⟩)) l i
theorem placeAt_eq (fault : Wr → Int) (same : Wr → Wr → Bool) {l : List Wr} {i : Nat} (h : i < l.length) : placeAt fault same l i = stepE (fun y => same y l[i]) (fault l[i]) l i := by
  simp [placeAt, h]
def readsFaultS (l : List Wr) : Int := firstBad (placeAt readFaultS sameRd l) l.length 0
def writesFaultS (l : List Wr) : Int := firstBad (placeAt writeFaultS samePl l) l.length 0
/-- What TxnFault and txn.Check answer. -/
def txnFaultS (t : Tx) : Int := if ¬ (0 ≤ t.start ∧ t.start ≤ 1048576) then 2 else if 20 < t.reads.length ∨ 10 < t.writes.length then 1 else if readsFaultS t.reads ≠ 0 then readsFaultS t.reads else writesFaultS t.writes

end Go.Proofs.YthohkgggodhbcaaGreat
namespace Go.Proofs.YthohkgggodhbcaaGreat
open Go.RowKit
set_option linter.unusedVariables false
set_option linter.unusedSimpArgs false

end Go.Proofs.YthohkgggodhbcaaGreat
namespace Go.Proofs.YthohkgggodhbcaaGreat
open Go.RowKit
set_option linter.unusedVariables false
set_option linter.unusedSimpArgs false

theorem Same.of_lt {S : Nat → Prop} {n : Nat} {w w' : World} (h : Below n w w') (hS : ∀ k, S k → k < n) : Same S w w' := ⟨h.size, fun k hk _ => h.block k (hS k hk)⟩
theorem alloc3 (w : World) (a b c : Obj) : (((w.alloc a).alloc b).alloc c).heap[w.heap.size]? = some a ∧ (((w.alloc a).alloc b).alloc c).heap[w.heap.size + 1]? = some b ∧ (((w.alloc a).alloc b).alloc c).heap[w.heap.size + 2]? = some c ∧ (((w.alloc a).alloc b).alloc c).heap.size = w.heap.size + 3 ∧ Below w.heap.size w (((w.alloc a).alloc b).alloc c) := by
  refine ⟨?_, ?_, ?_, by simp, (((Below.refl _ _).alloc (Nat.le_refl _) _).alloc (by simp) _).alloc (by simp; omega) _⟩
  · rw [heap_alloc_old _ _ (by simp; omega), heap_alloc_old _ _ (by simp), heap_alloc_new]
  · rw [heap_alloc_old _ _ (by simp)]
    have := heap_alloc_new (w.alloc a) b
    simpa using this
  · have := heap_alloc_new ((w.alloc a).alloc b) c
    simpa using this
/-- A row of the call's own is so still, where nothing of it has turned; said of more blocks. -/
theorem Own.keep {α : Type} {size : Nat} {R : (Nat → Prop) → World → List Value → α → Prop} {S T S2 : Nat → Prop} {w w' : World} {base base' : Nat} {e : TypeId} {v : Value} {l : List α} (hR : Stays R) (h : Own size R S w base e v l) (hb : Same T w w') (hST : ∀ b, b < w.heap.size → S b → T b) (hv : ∀ b, v.ownBlock = some b → T b) (hS2 : ∀ b, b < w.heap.size → S b → S2 b) (hbase : base' ≤ base) : Own size R S2 w' base' e v l := by
  obtain ⟨xs, h1, h2⟩ := h
  refine ⟨xs, ⟨h1.1, ?_⟩, fun i hi => ?_⟩
  · rcases h1.2 with hn | ⟨g, cap, cur, hv', hb', hh, rest⟩
    · exact .inl hn
    · refine .inr ⟨g, cap, cur, hv', Nat.le_trans hbase hb', ?_, rest⟩
      rw [hb.block g (hv g (by rw [hv']; rfl)) (Array.getElem?_eq_some_iff.1 hh).1]
      exact hh
  · have h3 := hR.less _ (fun b => (S2 b ∧ v.ownBlock ≠ some b) ∧ T b) w _ _ (fun b hb2 hs => ⟨⟨hS2 b hb2 hs.1, hs.2⟩, hST b hb2 hs.1⟩) (h2 i hi)
    have h4 := hR.same _ w w' _ _ ⟨hb.size, fun k hk hk2 => hb.block k hk.2 hk2⟩ h3
    exact hR.less _ _ _ _ _ (fun b _ hs => hs.1) h4
/-- The block of a slice. -/
def blk (A : Option Addr) : Option Nat := A.map (·.block)
theorem own_blkT (A : Option Addr) (n c : Nat) : (Value.slice A n c).ownBlock = blk A := by
  cases A <;> rfl
theorem Own.sl {α : Type} {size : Nat} {R : (Nat → Prop) → World → List Value → α → Prop} {S : Nat → Prop} {w : World} {base : Nat} {e : TypeId} {A : Option Addr} {l : List α} {c : Nat} (hR : Stays R) (h : Own size R S w base e (.slice A l.length c) l) (hS : ∀ b, base ≤ b → blk A = some b → S b) : SL size R S w A l := by
  obtain ⟨xs, h1, h2⟩ := h
  intro hl
  have h1' := h1
  rcases h1.2 with ⟨hn, h0⟩ | ⟨g, cap, cur, hv, hge, hh, hcap, _⟩
  · omega
  · injection hv with hA _ _
    subst hA
    refine ⟨g, 0, rfl, hS g hge rfl, (Array.getElem?_eq_some_iff.1 hh).1, fun i hi => ⟨_, ?_, fun j hj => ?_, hR.less _ _ _ _ _ (fun b _ hs => hs.1) (h2 i hi)⟩⟩
    · rw [List.length_take, List.length_drop, h1'.1]
      have : (i + 1) * size ≤ l.length * size := Nat.mul_le_mul_right _ hi
      rw [Nat.add_mul, Nat.one_mul] at this
      omega
    · have hlt : i * size + j < xs.length := by
        rw [h1'.1]
        have : (i + 1) * size ≤ l.length * size := Nat.mul_le_mul_right _ hi
        rw [Nat.add_mul, Nat.one_mul] at this
        omega
      have hc := h1'.cells (g := g) rfl (i * size + j) xs[i * size + j] (List.getElem?_eq_getElem hlt)
      rw [add_at] at hc
      rw [Nat.add_assoc, hc]
      rw [List.getElem?_take_of_lt hj, List.getElem?_drop, List.getElem?_eq_getElem hlt]
def RetTx (w : World) (t : Tx) (e : Ending) (w' : World) : Prop :=
  ∃ A n B m, e = .returned (.agg #[.int .i64 t.start, .slice A t.reads.length n, .slice B t.writes.length m]) ∧ t.reads.length ≤ n ∧ t.writes.length ≤ m ∧ Ws (From w.heap.size) w' A t.reads ∧ Ws (From w.heap.size) w' B t.writes ∧ Below w.heap.size w w'
end Go.Proofs.YthohkgggodhbcaaGreat
namespace Go.Proofs.YthohkgggodhbcaaGreat
open Go.RowKit
set_option linter.unusedVariables false
set_option linter.unusedSimpArgs false

theorem alloc2 (w : World) (a b : Obj) : ((w.alloc a).alloc b).heap[w.heap.size]? = some a ∧ ((w.alloc a).alloc b).heap[w.heap.size + 1]? = some b ∧ ((w.alloc a).alloc b).heap.size = w.heap.size + 2 ∧ Below w.heap.size w ((w.alloc a).alloc b) := by
  refine ⟨?_, ?_, by simp, ((Below.refl _ _).alloc (Nat.le_refl _) _).alloc (by simp) _⟩
  · rw [heap_alloc_old _ _ (by simp), heap_alloc_new]
  · have := heap_alloc_new (w.alloc a) b
    simpa using this
end Go.Proofs.YthohkgggodhbcaaGreat
