/- A piece behind its length, at a place; what a reader takes: no program. -/
import Derived.Test.YtddppmhpdgecgaaDoorBytes
namespace Go.Proofs.YtddppmhpdgecgaaDoor
open Go.RowKit
set_option linter.unusedVariables false
set_option linter.unusedSimpArgs false

/-- A reader: what is left, and whether it ended too early. -/
abbrev Rdr := List UInt8 × Bool
def takeS (s : Rdr) (n : Nat) : List UInt8 × Rdr := if s.2 = true ∨ s.1.length < n then (List.replicate n 0, (s.1, true)) else (s.1.take n, (s.1.drop n, false))
theorem take_len (s : Rdr) (n : Nat) : (takeS s n).1.length = n := by
  unfold takeS
  split
  · simp
  · simp; omega
theorem take_rest (s : Rdr) (n : Nat) : (takeS s n).2.1.length ≤ s.1.length := by
  unfold takeS
  split <;> simp
theorem take_short {s : Rdr} (h : s.2 = true) (n : Nat) : (takeS s n).2.2 = true := by unfold takeS; rw [if_pos (.inl h)]
def byteS (s : Rdr) : Nat × Rdr := (((takeS s 1).1.getD 0 0).toNat, (takeS s 1).2)
theorem rdByte_lt (s : Rdr) : (byteS s).1 < 256 := UInt8.toNat_lt _
theorem byte_short {s : Rdr} (h : s.2 = true) : (byteS s).2.2 = true := take_short h 1
theorem byte_rest (s : Rdr) : (byteS s).2.1.length ≤ s.1.length := take_rest s 1
/-- A piece behind its length. -/
def pieceS (s : Rdr) : List UInt8 × Rdr := takeS (byteS s).2 (byteS s).1
theorem piece_short {s : Rdr} (h : s.2 = true) : (pieceS s).2.2 = true := take_short (byte_short h) _
theorem piece_len (s : Rdr) : (pieceS s).1.length ≤ 255 := by have := rdByte_lt s; unfold pieceS; rw [take_len]; omega
theorem piece_rest (s : Rdr) : (pieceS s).2.1.length ≤ s.1.length := Nat.le_trans (take_rest _ _) (byte_rest s)
theorem byte_yes {x : UInt8} {r : List UInt8} : byteS (x :: r, false) = (x.toNat, (r, false)) := by simp [byteS, takeS]
theorem byte_no {s : Rdr} (h : s.1 = [] ∨ s.2 = true) : byteS s = (0, (s.1, true)) := by
  have : s.2 = true ∨ s.1.length < 1 := by
    rcases h with h | h
    · exact .inr (by rw [h]; decide)
    · exact .inl h
  unfold byteS takeS
  rw [if_pos this]
  rfl
/-- A reader and a place in the bytes say the same. -/
def RdAt (b : List UInt8) (s : Rdr) (p : Int) : Prop := (s.2 = false ∧ 0 ≤ p ∧ p ≤ b.length ∧ s.1 = b.drop p.toNat) ∨ (s.2 = true ∧ p = -1)
/-- A piece at a place, and where it ends. -/
def pieceAt (b : List UInt8) (p : Int) : List UInt8 × Int :=
  if 0 ≤ p ∧ p < b.length ∧ p.toNat + 1 + (b.getD p.toNat 0).toNat ≤ b.length then ((b.drop (p.toNat + 1)).take (b.getD p.toNat 0).toNat, p + 1 + (b.getD p.toNat 0).toNat) else ([], -1)
theorem byte_at {b : List UInt8} {n : Nat} (h : n < b.length) : byteS (b.drop n, false) = ((b.getD n 0).toNat, (b.drop (n + 1), false)) := by
  rw [List.drop_eq_getElem_cons h, byte_yes]
  simp [List.getD_eq_getElem?_getD, List.getElem?_eq_getElem h]
theorem take_yes {l : List UInt8} {n : Nat} (h : n ≤ l.length) : takeS (l, false) n = (l.take n, (l.drop n, false)) := by
  unfold takeS
  rw [if_neg (by simp; omega)]
theorem take_no {s : Rdr} {n : Nat} (h : s.2 = true ∨ s.1.length < n) : (takeS s n).2.2 = true := by
  unfold takeS
  rw [if_pos h]
/-- A piece there is read by both alike. -/
theorem piece_at {b : List UInt8} {s : Rdr} {p : Int} (h : RdAt b s p) : RdAt b (pieceS s).2 (pieceAt b p).2 ∧ ((pieceS s).2.2 = false → (pieceAt b p).1 = (pieceS s).1) := by
  rcases h with ⟨h0, h1, h2, h3⟩ | ⟨h0, h1⟩
  · obtain ⟨r, f⟩ := s
    obtain rfl : f = false := h0
    obtain rfl : r = b.drop p.toNat := h3
    by_cases hl : p.toNat < b.length
    · have e : pieceS (b.drop p.toNat, false) = takeS (b.drop (p.toNat + 1), false) (b.getD p.toNat 0).toNat := by unfold pieceS; rw [byte_at hl]
      by_cases hn : p.toNat + 1 + (b.getD p.toNat 0).toNat ≤ b.length
      · rw [e, take_yes (by rw [List.length_drop]; omega), pieceAt, if_pos ⟨h1, by omega, hn⟩]
        have e2 : (p + 1 + ((b.getD p.toNat 0).toNat : Int)).toNat = p.toNat + 1 + (b.getD p.toNat 0).toNat := by omega
        refine ⟨.inl ⟨rfl, by show 0 ≤ p + 1 + ((b.getD p.toNat 0).toNat : Int); omega, by show p + 1 + ((b.getD p.toNat 0).toNat : Int) ≤ b.length; omega, ?_⟩, fun _ => rfl⟩
        show (b.drop (p.toNat + 1)).drop (b.getD p.toNat 0).toNat = b.drop (p + 1 + ((b.getD p.toNat 0).toNat : Int)).toNat
        rw [List.drop_drop, e2]
      · rw [e, pieceAt, if_neg (by omega)]
        have h4 := take_no (s := (b.drop (p.toNat + 1), false)) (n := (b.getD p.toNat 0).toNat) (.inr (by rw [List.length_drop]; omega))
        exact ⟨.inr ⟨h4, rfl⟩, fun h => by rw [h4] at h; cases h⟩
    · have e : byteS (b.drop p.toNat, false) = (0, (b.drop p.toNat, true)) := byte_no (.inl (List.drop_eq_nil_of_le (by omega)))
      have h4 : (pieceS (b.drop p.toNat, false)).2.2 = true := by unfold pieceS; rw [e]; exact take_short rfl _
      rw [pieceAt, if_neg (by omega)]
      exact ⟨.inr ⟨h4, rfl⟩, fun h => by rw [h4] at h; cases h⟩
  · have h4 := piece_short h0
    rw [pieceAt, if_neg (by omega)]
    exact ⟨.inr ⟨h4, rfl⟩, fun h => by rw [h4] at h; cases h⟩
theorem at_short {b : List UInt8} {s : Rdr} {p : Int} (h : RdAt b s p) : s.2 = decide (p < 0) := by
  rcases h with ⟨h0, h1, _⟩ | ⟨h0, h1⟩
  · rw [h0]; symm; exact decide_eq_false (by omega)
  · rw [h0, h1]; rfl
theorem at_rest {b : List UInt8} {s : Rdr} {p : Int} (h : RdAt b s p) (hs : s.2 = false) : decide (0 < s.1.length) = decide (p < b.length) ∧ 0 ≤ p := by
  rcases h with ⟨h0, h1, h2, h3⟩ | ⟨h0, h1⟩
  · refine ⟨?_, h1⟩
    rw [h3, List.length_drop]
    exact decide_eq_decide.2 (by omega)
  · rw [h0] at hs; cases hs
end Go.Proofs.YtddppmhpdgecgaaDoor
