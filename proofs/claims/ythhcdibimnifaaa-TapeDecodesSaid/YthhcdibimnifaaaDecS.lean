/- What tape.Decode reads, in plain words: a reader of bytes; no program. -/
import Derived.Test.YthhcdibimnifaaaTapeCheck
import Derived.Test.YthhcdibimnifaaaCm
import Derived.Test.YthhcdibimnifaaaPieceS
namespace Go.Proofs.Ythhcdibimnifaaa
open Go.RowKit
set_option linter.unusedVariables false
set_option linter.unusedSimpArgs false

/-- The value of a write, or that it is gone. -/
def valueS (s : Rdr) : (Bool × List UInt8) × Rdr := if (byteS s).1 = 255 then ((true, []), (byteS s).2) else ((false, (takeS (byteS s).2 (byteS s).1).1), (takeS (byteS s).2 (byteS s).1).2)
theorem value_short {s : Rdr} (h : s.2 = true) : (valueS s).2.2 = true := by
  unfold valueS
  split
  · exact byte_short h
  · exact take_short (byte_short h) _
theorem value_rest (s : Rdr) : (valueS s).2.1.length ≤ s.1.length := by
  unfold valueS
  split
  · exact byte_rest s
  · exact Nat.le_trans (take_rest _ _) (byte_rest s)
theorem value_len (s : Rdr) : (valueS s).1.2.length ≤ 255 := by
  have := rdByte_lt s
  unfold valueS
  split
  · simp
  · show (takeS _ _).1.length ≤ 255
    rw [take_len]; omega
def wrS (s : Rdr) : Wr × Rdr :=
  (⟨(pieceS s).1, (pieceS (pieceS s).2).1, (valueS (pieceS (pieceS s).2).2).1.1, (valueS (pieceS (pieceS s).2).2).1.2⟩, (valueS (pieceS (pieceS s).2).2).2)
theorem wr_short {s : Rdr} (h : s.2 = true) : (wrS s).2.2 = true := value_short (piece_short (piece_short h))
theorem wr_rest (s : Rdr) : (wrS s).2.1.length ≤ s.1.length := Nat.le_trans (value_rest _) (Nat.le_trans (piece_rest _) (piece_rest _))
/-- Behind so many writes. -/
def wrsS (s : Rdr) : Nat → List Wr × Rdr
  | 0 => ([], s)
  | n + 1 => ((wrsS s n).1 ++ [(wrS (wrsS s n).2).1], (wrS (wrsS s n).2).2)
theorem wrs_len (s : Rdr) : ∀ n, (wrsS s n).1.length = n
  | 0 => rfl
  | n + 1 => by rw [wrsS, List.length_append, wrs_len s n]; rfl
theorem wrs_short {s : Rdr} {n : Nat} (h : (wrsS s n).2.2 = true) : ∀ m, n ≤ m → (wrsS s m).2.2 = true := by
  intro m hm
  induction m with
  | zero =>
    obtain rfl : n = 0 := by omega
    exact h
  | succ m ih =>
    by_cases e : n = m + 1
    · subst e
      exact h
    · exact wr_short (ih (by omega))
theorem wrs_rest (s : Rdr) : ∀ n, (wrsS s n).2.1.length ≤ s.1.length
  | 0 => Nat.le_refl _
  | n + 1 => Nat.le_trans (wr_rest _) (wrs_rest s n)
def headS (b : List UInt8) : Rdr := (byteS (byteS (byteS (byteS (b, false)).2).2).2).2
def turnS (b : List UInt8) : Nat := 65536 * (byteS (b, false)).1 + 256 * (byteS (byteS (b, false)).2).1 + (byteS (byteS (byteS (b, false)).2).2).1
def countS (b : List UInt8) : Nat := (byteS (byteS (byteS (byteS (b, false)).2).2).2).1
def cmS (b : List UInt8) : Cm := (turnS b, (wrsS (headS b) (countS b)).1)
/-- What Decode and CommitOf answer. -/
def decS (b : List UInt8) : Cm × Int :=
  if 4000 < b.length then ((0, []), 1) else if (wrsS (headS b) (countS b)).2.2 = true then ((0, []), 14) else
  if 0 < (wrsS (headS b) (countS b)).2.1.length then ((0, []), 4) else if commitFaultS (cmS b) ≠ 0 then ((0, []), commitFaultS (cmS b)) else (cmS b, 0)
theorem head_short {b : List UInt8} (h : b.length < 4) : (headS b).2 = true := by
  unfold headS
  match b, h with
  | [], _ => exact byte_short (byte_short (byte_short (by rw [byte_no (.inl rfl)])))
  | [x], _ => rw [byte_yes]; exact byte_short (byte_short (by rw [byte_no (.inl rfl)]))
  | [x, y], _ => rw [byte_yes, byte_yes]; exact byte_short (by rw [byte_no (.inl rfl)])
  | [x, y, z], _ => rw [byte_yes, byte_yes, byte_yes]; rw [byte_no (.inl rfl)]
theorem head_four {x y z t : UInt8} {r : List UInt8} : headS (x :: y :: z :: t :: r) = (r, false) ∧ turnS (x :: y :: z :: t :: r) = 65536 * x.toNat + 256 * y.toNat + z.toNat ∧ countS (x :: y :: z :: t :: r) = t.toNat := by
  refine ⟨?_, ?_, ?_⟩
  · unfold headS; rw [byte_yes, byte_yes, byte_yes, byte_yes]
  · unfold turnS; rw [byte_yes, byte_yes, byte_yes]
  · unfold countS; rw [byte_yes, byte_yes, byte_yes, byte_yes]

/-- Is there a 255? -/
def goneAt (b : List UInt8) (p : Int) : Bool := decide (0 ≤ p ∧ p < b.length ∧ (b.getD p.toNat 0).toNat = 255)
theorem gone_yes {b : List UInt8} {s : Rdr} {p : Int} (h : RdAt b s p) (hg : goneAt b p = true) : RdAt b (valueS s).2 (p + 1) ∧ (valueS s).1 = (true, []) := by
  obtain ⟨h1, h2, h3⟩ := of_decide_eq_true hg
  rcases h with ⟨g0, _, _, g3⟩ | ⟨_, g1⟩
  · obtain ⟨r, f⟩ := s
    obtain rfl : f = false := g0
    obtain rfl : r = b.drop p.toNat := g3
    have e := byte_at (b := b) (n := p.toNat) (by omega)
    unfold valueS
    rw [e]
    dsimp only
    rw [if_pos h3]
    have e2 : (p + 1).toNat = p.toNat + 1 := by omega
    exact ⟨.inl ⟨rfl, by omega, by omega, by rw [e2]⟩, rfl⟩
  · omega
theorem gone_no {b : List UInt8} {s : Rdr} {p : Int} (h : RdAt b s p) (hg : goneAt b p = false) : RdAt b (valueS s).2 (pieceAt b p).2 ∧ ((valueS s).2.2 = false → (valueS s).1 = (false, (pieceAt b p).1)) := by
  have hn : ¬ (0 ≤ p ∧ p < b.length ∧ (b.getD p.toNat 0).toNat = 255) := of_decide_eq_false hg
  obtain ⟨h1, h2⟩ := piece_at h
  have e : (byteS s).1 ≠ 255 ∧ (valueS s) = ((false, (pieceS s).1), (pieceS s).2) := by
    have h3 : (byteS s).1 ≠ 255 := by
      rcases h with ⟨g0, g1, g2, g3⟩ | ⟨g0, _⟩
      · obtain ⟨r, f⟩ := s
        obtain rfl : f = false := g0
        obtain rfl : r = b.drop p.toNat := g3
        by_cases hl : p.toNat < b.length
        · rw [byte_at hl]; exact fun h => hn ⟨g1, by omega, h⟩
        · rw [byte_no (.inl (List.drop_eq_nil_of_le (by omega)))]; exact fun h => by cases h
      · rw [byte_no (.inr g0)]; exact fun h => by cases h
    refine ⟨h3, ?_⟩
    unfold valueS
    rw [if_neg h3]
    rfl
  rw [e.2]
  exact ⟨h1, fun h => by rw [h2 h]⟩
end Go.Proofs.Ythhcdibimnifaaa
