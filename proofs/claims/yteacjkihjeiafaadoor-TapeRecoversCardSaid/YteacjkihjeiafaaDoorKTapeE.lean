/- TapeE: Recovery in plain words: the frame at a place, the frames from a place on. The conditions of each are in its words. -/
import Derived.Test.YteacjkihjeiafaaDoorKTapeB
import Derived.Test.YteacjkihjeiafaaDoorKDec
namespace Go.Proofs.YteacjkihjeiafaaDoor
open Go.RowKit
set_option linter.unusedVariables false
set_option linter.unusedSimpArgs false

/-- The frame that begins these bytes: its commit, and how long it is. -/
def frameF : List UInt8 → Option (Cm × Nat)
  | a :: b :: r =>
    let n := 256 * a.toNat + b.toNat
    if 4000 < n + 2 ∨ r.length < n + 4 then none
    else if (digS (a :: b :: r.take n)).take 4 ≠ (r.drop n).take 4 then none
    else if (decS (r.take n)).2 ≠ 0 then none
    else some ((decS (r.take n)).1, n + 6)
  | _ => none
/-- The commits from this turn on, and how far they reach (k: so many at most). -/
def recF : Nat → List UInt8 → Nat → List Cm × Nat
  | 0, _, _ => ([], 0)
  | k + 1, d, turn =>
    match frameF d with
    | none => ([], 0)
    | some (c, n) => if c.1 ≠ (turn : Int) then ([], 0) else ((c :: (recF k (d.drop n) (turn + 1)).1), n + (recF k (d.drop n) (turn + 1)).2)
/-- What tape.Recover and TapeRecovered answer. -/
def recS (t : Tp) : (List Cm × Tp) × Int :=
  if mayS t = false then (([], ([], 0)), 6)
  else (((recF t.1.length t.1 1).1, (t.1.take (recF t.1.length t.1 1).2, min t.2 ((recF t.1.length t.1 1).2 : Int))), 0)
theorem frameF_len {d : List UInt8} {c : Cm} {n : Nat} (h : frameF d = some (c, n)) : n ≤ d.length ∧ 6 ≤ n ∧ n ≤ 4004 := by
  match d, h with
  | [], h => simp [frameF] at h
  | [x], h => simp [frameF] at h
  | a :: b :: r, h =>
    simp only [frameF] at h
    split at h
    · cases h
    · rename_i h1
      split at h
      · cases h
      · split at h
        · cases h
        · simp only [Option.some.injEq, Prod.mk.injEq] at h
          obtain ⟨_, rfl⟩ := h
          simp only [List.length_cons]
          omega
theorem recF_none {k : Nat} {d : List UInt8} {turn : Nat} (h : frameF d = none) : recF k d turn = ([], 0) := by
  cases k with
  | zero => rfl
  | succ k => unfold recF; rw [h]
theorem recF_turn {k : Nat} {d : List UInt8} {turn : Nat} {c : Cm} {n : Nat} (h : frameF d = some (c, n)) (hc : c.1 ≠ (turn : Int)) : recF k d turn = ([], 0) := by
  cases k with
  | zero => rfl
  | succ k => unfold recF; rw [h]; exact if_pos hc
theorem recF_more {k : Nat} {d : List UInt8} {turn : Nat} {c : Cm} {n : Nat} (h : frameF d = some (c, n)) (hc : c.1 = (turn : Int)) : recF (k + 1) d turn = (c :: (recF k (d.drop n) (turn + 1)).1, n + (recF k (d.drop n) (turn + 1)).2) := by
  conv => lhs; unfold recF
  rw [h]
  exact if_neg (by simpa using hc)
end Go.Proofs.YteacjkihjeiafaaDoor
