/- Words for wire.Decode. -/
import Derived.Test.YtddppmhpdgecgaaDoorWireCheck
import Derived.Test.YtddppmhpdgecgaaDoorRqCopy
import Derived.Test.YtddppmhpdgecgaaDoorPiece
import Derived.Test.YtddppmhpdgecgaaDoorEnc0
namespace Go.Proofs.YtddppmhpdgecgaaDoor
open Go.RowKit
set_option linter.unusedVariables false
set_option linter.unusedSimpArgs false

/-- A part of a request, where parts h has one. -/
def fldS (h j : Nat) (s : Rdr) : List UInt8 × Rdr := if h / 2 ^ j % 2 = 1 then pieceS s else ([], s)
def rdUp (h : Nat) (s : Rdr) : Nat → Rdr
  | 0 => s
  | j + 1 => (fldS h j (rdUp h s j)).2
def fAt (h : Nat) (s : Rdr) (j : Nat) : List UInt8 := (fldS h j (rdUp h s j)).1
def fUp (h : Nat) (s : Rdr) (j i : Nat) : List UInt8 := if i < j then fAt h s i else []
def rqS (k h : Nat) (s : Rdr) : Rq := ⟨k, fAt h s 0, fAt h s 1, fAt h s 2, fAt h s 3⟩
def rq0 : Rq := ⟨0, [], [], [], []⟩
/-- What a request of kind k and parts h is, from the bytes behind the first one. -/
def decK (k h : Nat) (s : Rdr) : Rq × Int :=
  if (rdUp h s 4).2 = true then (rq0, 14) else if 0 < (rdUp h s 4).1.length then (rq0, 4) else if rqFault (rqS k h s) ≠ 0 then (rq0, rqFault (rqS k h s)) else (rqS k h s, 0)
/-- What wire.Decode and RequestOf answer. -/
def decRq (b : List UInt8) : Rq × Int :=
  if 4000 < b.length then (rq0, 1) else if b.length = 0 then (rq0, 14) else
  if ¬ (1 ≤ (b.getD 0 0).toNat ∧ (b.getD 0 0).toNat ≤ 8) then (rq0, 5) else decK (b.getD 0 0).toNat (hasS (b.getD 0 0).toNat) (b.drop 1, false)
theorem fld_short {h j : Nat} {s : Rdr} (hs : s.2 = true) : (fldS h j s).2.2 = true := by
  unfold fldS
  split
  · exact piece_short hs
  · exact hs
theorem rdUp_short {h : Nat} {s : Rdr} {j : Nat} (hj : j ≤ 4) (hs : (rdUp h s j).2 = true) : (rdUp h s 4).2 = true := by
  rcases (by omega : j = 0 ∨ j = 1 ∨ j = 2 ∨ j = 3 ∨ j = 4) with rfl | rfl | rfl | rfl | rfl
  · exact fld_short (fld_short (fld_short (fld_short hs)))
  · exact fld_short (fld_short (fld_short hs))
  · exact fld_short (fld_short hs)
  · exact fld_short hs
  · exact hs
theorem piece_good {q : List UInt8} (h1 : 1 ≤ q.length) (h2 : 1 + (q.getD 0 0).toNat ≤ q.length) : pieceS (q, false) = ((q.drop 1).take (q.getD 0 0).toNat, (q.drop (1 + (q.getD 0 0).toNat), false)) := by
  have hb := byte_at (b := q) (n := 0) (by omega)
  rw [List.drop_zero] at hb
  unfold pieceS
  rw [hb]
  dsimp only
  rw [take_yes (show (q.getD 0 0).toNat ≤ (q.drop 1).length by rw [List.length_drop]; omega), List.drop_drop]
theorem piece_fails {q : List UInt8} (h : q.length = 0 ∨ q.length < 1 + (q.getD 0 0).toNat) : (pieceS (q, false)).2.2 = true := by
  by_cases h1 : 1 ≤ q.length
  · have hb := byte_at (b := q) (n := 0) (by omega)
    rw [List.drop_zero] at hb
    unfold pieceS
    rw [hb]
    exact take_no (.inr (by rw [List.length_drop]; dsimp only; omega))
  · have hb : byteS (q, false) = (0, (q, true)) := byte_no (.inl (show q = [] from List.eq_nil_of_length_eq_zero (by omega)))
    unfold pieceS
    rw [hb]
    exact take_short rfl _
theorem rd_len (h : Nat) (s : Rdr) : ∀ j, (rdUp h s j).1.length ≤ s.1.length
  | 0 => Nat.le_refl _
  | j + 1 => by
    have := rd_len h s j
    show (fldS h j (rdUp h s j)).2.1.length ≤ _
    unfold fldS
    split
    · exact Nat.le_trans (piece_rest _) this
    · exact this
theorem bs_zero {S : Nat → Prop} {w : World} {X : Option Addr} {q : List UInt8} (h : Bs S w X q) (h1 : 1 ≤ q.length) : ∃ g off, X = some ⟨g, off, none⟩ ∧ w.cell? ⟨g, off, none⟩ = some (.int .u8 ((q.getD 0 0).toNat : Int)) := by
  obtain ⟨g, off, e, _, _, hc⟩ := h.bat (k := 0) (by omega)
  refine ⟨g, off, e, ?_⟩
  rw [Nat.add_zero] at hc
  rw [hc, List.getD_eq_getElem?_getD, List.getElem?_eq_getElem (by omega)]
  rfl
theorem clone_to (w : World) (A : Option Addr) (n : Nat) (a : List UInt8) (hl : n = a.length) (c : Nat) (ha : Bs All w A a) (hn : a.length ≤ big) :
    Calls Tryd.prog 85 #[.slice A n c] w (RetSLc 1 ByteR w a) := by
  subst hl
  exact clone_cap w A a c ha hn
theorem bs_from {S : Nat → Prop} {w : World} {A : Option Addr} {l : List UInt8} (h : Bs S w A l) (i : Nat) : Bs S w (Option.map (fun x => x.add i) A) (l.drop i) := by
  have := bs_sub h i (l.length - i)
  rwa [List.take_of_length_le (by rw [List.length_drop]; omega)] at this
theorem bs_cut {S : Nat → Prop} {w : World} {A : Option Addr} {l : List UInt8} (h : Bs S w A l) (c n : Nat) (hc : l.length ≤ c) : Bs S w (if c = n then A else Option.map (fun x => x.add n) A) (l.drop n) := by
  by_cases hcn : c = n
  · rw [if_pos hcn, List.drop_eq_nil_of_le (by omega)]
    exact SL.nil
  · rw [if_neg hcn]
    exact bs_from h n
theorem bs_if2 {S : Nat → Prop} {w : World} {g o : Nat} {q : List UInt8} (h : Bs S w (some ⟨g, o, none⟩) q) (c i : Nat) (hc : q.length ≤ c) : Bs S w (if c = i then some ⟨g, o, none⟩ else some ⟨g, o + i, none⟩) (q.drop i) := by
  by_cases hci : c = i
  · rw [List.drop_eq_nil_of_le (by omega)]
    exact SL.nil
  · rw [if_neg hci]
    have h2 := bs_from h i
    rw [Option.map_some, add_at] at h2
    exact h2
theorem bs_if {S : Nat → Prop} {w : World} {g o : Nat} {q : List UInt8} (h : Bs S w (some ⟨g, o, none⟩) q) (c i n : Nat) (hc : q.length ≤ c) : Bs S w (if c = i then some ⟨g, o, none⟩ else some ⟨g, o + i, none⟩) ((q.drop i).take n) := by
  by_cases hci : c = i
  · rw [List.drop_eq_nil_of_le (by omega), List.take_nil]
    exact SL.nil
  · rw [if_neg hci]
    have h2 := bs_sub h i n
    rw [Option.map_some, add_at] at h2
    exact h2
/-- wire.Decode behind j parts. -/
structure DRq (w : World) (k h : Nat) (s : Rdr) (j : Nat) (v : Value) (wr : World) : Prop where
  long : (rdUp h s j).2 = false
  rest : ∃ X c, v = .slice X (rdUp h s j).1.length c ∧ (rdUp h s j).1.length ≤ c ∧ Bs (Lo w.heap.size) wr X (rdUp h s j).1
  box : ∃ A a B b C c D d, wr.heap[w.heap.size + 1]? = some (.cells #[.int .i64 k, .slice A (fUp h s j 0).length a, .slice B (fUp h s j 1).length b, .slice C (fUp h s j 2).length c, .slice D (fUp h s j 3).length d] 24 (0, 0)) ∧
    Bs (From (w.heap.size + 2)) wr A (fUp h s j 0) ∧ Bs (From (w.heap.size + 2)) wr B (fUp h s j 1) ∧ Bs (From (w.heap.size + 2)) wr C (fUp h s j 2) ∧ Bs (From (w.heap.size + 2)) wr D (fUp h s j 3)
  res : wr.heap[w.heap.size]? = some (.cells #[.int .i64 0, .slice none 0 0, .slice none 0 0, .slice none 0 0, .slice none 0 0] 24 (0, 0))
  bel : Below w.heap.size w wr
  siz : w.heap.size + 2 ≤ wr.heap.size
/-- The call returns a request of its own memory, and a number. -/
def RetRqE (w : World) (r : Rq × Int) (e : Ending) (w' : World) : Prop :=
  ∃ A a B b C c D d, e = .returned (.tuple #[.agg #[.int .i64 r.1.kind, .slice A r.1.name.length a, .slice B r.1.key.length b, .slice C r.1.last.length c, .slice D r.1.value.length d], .int .i64 r.2]) ∧ Bs (From w.heap.size) w' A r.1.name ∧ Bs (From w.heap.size) w' B r.1.key ∧ Bs (From w.heap.size) w' C r.1.last ∧ Bs (From w.heap.size) w' D r.1.value ∧ Below w.heap.size w w'

end Go.Proofs.YtddppmhpdgecgaaDoor
