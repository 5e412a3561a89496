/- Dec: A piece behind its length, at a place; what a reader takes: no program. What tape.Decode reads, in plain words: a reader of bytes; no program. Walk: the references' piece. Walks: the reader of package tape. Walk: tape.Decode. Walk: CommitOf. The law TapeDecodes: its walk. The conditions of each are in its words. -/
import Derived.Deep.OwnRows
import Derived.Laws.OwnMore
import Derived.Test.YteacjkihjeiafaaDoorKBase
import Derived.Test.YteacjkihjeiafaaDoorKCommit
import Derived.Test.YteacjkihjeiafaaDoorKEnc
import Derived.Test.YteacjkihjeiafaaDoorKForest
namespace Go.Proofs.YteacjkihjeiafaaDoor
open Go.RowKit
set_option linter.unusedVariables false
set_option linter.unusedSimpArgs false

/-- A reader: what is left, and whether it ended too early. -/
abbrev Rdr := List UInt8 × Bool
def takeS (s : Rdr) (n : Nat) : List UInt8 × Rdr := if s.2 = true ∨ s.1.length < n then (List.replicate n 0, (s.1, true)) else (s.1.take n, (s.1.drop n, false))
theorem take_len (s : Rdr) (n : Nat) : (takeS s n).1.length = n := by
  unfold takeS
  split
  · simp
  · simp; omega
theorem take_rest (s : Rdr) (n : Nat) : (takeS s n).2.1.length ≤ s.1.length := by
  unfold takeS
  split <;> simp
theorem take_short {s : Rdr} (h : s.2 = true) (n : Nat) : (takeS s n).2.2 = true := by unfold takeS; rw [if_pos (.inl h)]
def byteS (s : Rdr) : Nat × Rdr := (((takeS s 1).1.getD 0 0).toNat, (takeS s 1).2)
theorem rdByte_lt (s : Rdr) : (byteS s).1 < 256 := UInt8.toNat_lt _
theorem byte_short {s : Rdr} (h : s.2 = true) : (byteS s).2.2 = true := take_short h 1
theorem byte_rest (s : Rdr) : (byteS s).2.1.length ≤ s.1.length := take_rest s 1
/-- A piece behind its length. -/
def pieceS (s : Rdr) : List UInt8 × Rdr := takeS (byteS s).2 (byteS s).1
theorem piece_short {s : Rdr} (h : s.2 = true) : (pieceS s).2.2 = true := take_short (byte_short h) _
theorem piece_len (s : Rdr) : (pieceS s).1.length ≤ 255 := by have := rdByte_lt s; unfold pieceS; rw [take_len]; omega
theorem piece_rest (s : Rdr) : (pieceS s).2.1.length ≤ s.1.length := Nat.le_trans (take_rest _ _) (byte_rest s)
theorem byte_yes {x : UInt8} {r : List UInt8} : byteS (x :: r, false) = (x.toNat, (r, false)) := by simp [byteS, takeS]
theorem byte_no {s : Rdr} (h : s.1 = [] ∨ s.2 = true) : byteS s = (0, (s.1, true)) := by
  have : s.2 = true ∨ s.1.length < 1 := by
    rcases h with h | h
    · exact .inr (by rw [h]; decide)
    · exact .inl h
  unfold byteS takeS
  rw [if_pos this]
  rfl
/-- A reader and a place in the bytes say the same. -/
def RdAt (b : List UInt8) (s : Rdr) (p : Int) : Prop := (s.2 = false ∧ 0 ≤ p ∧ p ≤ b.length ∧ s.1 = b.drop p.toNat) ∨ (s.2 = true ∧ p = -1)
/-- A piece at a place, and where it ends. -/
def pieceAt (b : List UInt8) (p : Int) : List UInt8 × Int :=
  if 0 ≤ p ∧ p < b.length ∧ p.toNat + 1 + (b.getD p.toNat 0).toNat ≤ b.length then ((b.drop (p.toNat + 1)).take (b.getD p.toNat 0).toNat, p + 1 + (b.getD p.toNat 0).toNat) else ([], -1)
theorem byte_at {b : List UInt8} {n : Nat} (h : n < b.length) : byteS (b.drop n, false) = ((b.getD n 0).toNat, (b.drop (n + 1), false)) := by
  rw [List.drop_eq_getElem_cons h, byte_yes]
  simp [List.getD_eq_getElem?_getD, List.getElem?_eq_getElem h]
theorem take_yes {l : List UInt8} {n : Nat} (h : n ≤ l.length) : takeS (l, false) n = (l.take n, (l.drop n, false)) := by
  unfold takeS
  rw [if_neg (by simp; omega)]
theorem take_no {s : Rdr} {n : Nat} (h : s.2 = true ∨ s.1.length < n) : (takeS s n).2.2 = true := by
  unfold takeS
  rw [if_pos h]
/-- A piece there is read by both alike. -/
theorem piece_at {b : List UInt8} {s : Rdr} {p : Int} (h : RdAt b s p) : RdAt b (pieceS s).2 (pieceAt b p).2 ∧ ((pieceS s).2.2 = false → (pieceAt b p).1 = (pieceS s).1) := by
  rcases h with ⟨h0, h1, h2, h3⟩ | ⟨h0, h1⟩
  · obtain ⟨r, f⟩ := s
    obtain rfl : f = false := h0
    obtain rfl : r = b.drop p.toNat := h3
    by_cases hl : p.toNat < b.length
    · have e : pieceS (b.drop p.toNat, false) = takeS (b.drop (p.toNat + 1), false) (b.getD p.toNat 0).toNat := by unfold pieceS; rw [byte_at hl]
      by_cases hn : p.toNat + 1 + (b.getD p.toNat 0).toNat ≤ b.length
      · rw [e, take_yes (by rw [List.length_drop]; omega), pieceAt, if_pos ⟨h1, by omega, hn⟩]
        have e2 : (p + 1 + ((b.getD p.toNat 0).toNat : Int)).toNat = p.toNat + 1 + (b.getD p.toNat 0).toNat := by omega
        refine ⟨.inl ⟨rfl, by show 0 ≤ p + 1 + ((b.getD p.toNat 0).toNat : Int); omega, by show p + 1 + ((b.getD p.toNat 0).toNat : Int) ≤ b.length; omega, ?_⟩, fun _ => rfl⟩
        show (b.drop (p.toNat + 1)).drop (b.getD p.toNat 0).toNat = b.drop (p + 1 + ((b.getD p.toNat 0).toNat : Int)).toNat
        rw [List.drop_drop, e2]
      · rw [e, pieceAt, if_neg (by omega)]
        have h4 := take_no (s := (b.drop (p.toNat + 1), false)) (n := (b.getD p.toNat 0).toNat) (.inr (by rw [List.length_drop]; omega))
        exact ⟨.inr ⟨h4, rfl⟩, fun h => by rw [h4] at h; cases h⟩
    · have e : byteS (b.drop p.toNat, false) = (0, (b.drop p.toNat, true)) := byte_no (.inl (List.drop_eq_nil_of_le (by omega)))
      have h4 : (pieceS (b.drop p.toNat, false)).2.2 = true := by unfold pieceS; rw [e]; exact take_short rfl _
      rw [pieceAt, if_neg (by omega)]
      exact ⟨.inr ⟨h4, rfl⟩, fun h => by rw [h4] at h; cases h⟩
  · have h4 := piece_short h0
    rw [pieceAt, if_neg (by omega)]
    exact ⟨.inr ⟨h4, rfl⟩, fun h => by rw [h4] at h; cases h⟩
theorem at_short {b : List UInt8} {s : Rdr} {p : Int} (h : RdAt b s p) : s.2 = decide (p < 0) := by
  rcases h with ⟨h0, h1, _⟩ | ⟨h0, h1⟩
  · rw [h0]; symm; exact decide_eq_false (by omega)
  · rw [h0, h1]; rfl
theorem at_rest {b : List UInt8} {s : Rdr} {p : Int} (h : RdAt b s p) (hs : s.2 = false) : decide (0 < s.1.length) = decide (p < b.length) ∧ 0 ≤ p := by
  rcases h with ⟨h0, h1, h2, h3⟩ | ⟨h0, h1⟩
  · refine ⟨?_, h1⟩
    rw [h3, List.length_drop]
    exact decide_eq_decide.2 (by omega)
  · rw [h0] at hs; cases hs
end Go.Proofs.YteacjkihjeiafaaDoor
namespace Go.Proofs.YteacjkihjeiafaaDoor
open Go.RowKit
set_option linter.unusedVariables false
set_option linter.unusedSimpArgs false

/-- The value of a write, or that it is gone. -/
def valueS (s : Rdr) : (Bool × List UInt8) × Rdr := if (byteS s).1 = 255 then ((true, []), (byteS s).2) else ((false, (takeS (byteS s).2 (byteS s).1).1), (takeS (byteS s).2 (byteS s).1).2)
theorem value_short {s : Rdr} (h : s.2 = true) : (valueS s).2.2 = true := by
  unfold valueS
  split
  · exact byte_short h
  · exact take_short (byte_short h) _
theorem value_rest (s : Rdr) : (valueS s).2.1.length ≤ s.1.length := by
  unfold valueS
  split
  · exact byte_rest s
  · exact Nat.le_trans (take_rest _ _) (byte_rest s)
theorem value_len (s : Rdr) : (valueS s).1.2.length ≤ 255 := by
  have := rdByte_lt s
  unfold valueS
  split
  · simp
  · show (takeS _ _).1.length ≤ 255
    rw [take_len]; omega
def wrS (s : Rdr) : Wr × Rdr :=
  (⟨(pieceS s).1, (pieceS (pieceS s).2).1, (valueS (pieceS (pieceS s).2).2).1.1, (valueS (pieceS (pieceS s).2).2).1.2⟩, (valueS (pieceS (pieceS s).2).2).2)
theorem wr_short {s : Rdr} (h : s.2 = true) : (wrS s).2.2 = true := value_short (piece_short (piece_short h))
theorem wr_rest (s : Rdr) : (wrS s).2.1.length ≤ s.1.length := Nat.le_trans (value_rest _) (Nat.le_trans (piece_rest _) (piece_rest _))
/-- Behind so many writes. -/
def wrsS (s : Rdr) : Nat → List Wr × Rdr
  | 0 => ([], s)
  | n + 1 => ((wrsS s n).1 ++ [(wrS (wrsS s n).2).1], (wrS (wrsS s n).2).2)
theorem wrs_len (s : Rdr) : ∀ n, (wrsS s n).1.length = n
  | 0 => rfl
  | n + 1 => by rw [wrsS, List.length_append, wrs_len s n]; rfl
theorem wrs_short {s : Rdr} {n : Nat} (h : (wrsS s n).2.2 = true) : ∀ m, n ≤ m → (wrsS s m).2.2 = true := by
  intro m hm
  induction m with
  | zero =>
    obtain rfl : n = 0 := by omega
    exact h
  | succ m ih =>
    by_cases e : n = m + 1
    · subst e
      exact h
    · exact wr_short (ih (by omega))
theorem wrs_rest (s : Rdr) : ∀ n, (wrsS s n).2.1.length ≤ s.1.length
  | 0 => Nat.le_refl _
  | n + 1 => Nat.le_trans (wr_rest _) (wrs_rest s n)
def dheadS (b : List UInt8) : Rdr := (byteS (byteS (byteS (byteS (b, false)).2).2).2).2
def turnS (b : List UInt8) : Nat := 65536 * (byteS (b, false)).1 + 256 * (byteS (byteS (b, false)).2).1 + (byteS (byteS (byteS (b, false)).2).2).1
def countS (b : List UInt8) : Nat := (byteS (byteS (byteS (byteS (b, false)).2).2).2).1
def cmS (b : List UInt8) : Cm := (turnS b, (wrsS (dheadS b) (countS b)).1)
/-- What Decode and CommitOf answer. -/
def decS (b : List UInt8) : Cm × Int :=
  if 4000 < b.length then ((0, []), 1) else if (wrsS (dheadS b) (countS b)).2.2 = true then ((0, []), 14) else
  if 0 < (wrsS (dheadS b) (countS b)).2.1.length then ((0, []), 4) else if commitFaultS (cmS b) ≠ 0 then ((0, []), commitFaultS (cmS b)) else (cmS b, 0)
theorem head_short {b : List UInt8} (h : b.length < 4) : (dheadS b).2 = true := by
  unfold dheadS
  match b, h with
  | [], _ => exact byte_short (byte_short (byte_short (by rw [byte_no (.inl rfl)])))
  | [x], _ => rw [byte_yes]; exact byte_short (byte_short (by rw [byte_no (.inl rfl)]))
  | [x, y], _ => rw [byte_yes, byte_yes]; exact byte_short (by rw [byte_no (.inl rfl)])
  | [x, y, z], _ => rw [byte_yes, byte_yes, byte_yes]; rw [byte_no (.inl rfl)]
theorem head_four {x y z t : UInt8} {r : List UInt8} : dheadS (x :: y :: z :: t :: r) = (r, false) ∧ turnS (x :: y :: z :: t :: r) = 65536 * x.toNat + 256 * y.toNat + z.toNat ∧ countS (x :: y :: z :: t :: r) = t.toNat := by
  refine ⟨?_, ?_, ?_⟩
  · unfold dheadS; rw [byte_yes, byte_yes, byte_yes, byte_yes]
  · unfold turnS; rw [byte_yes, byte_yes, byte_yes]
  · unfold countS; rw [byte_yes, byte_yes, byte_yes, byte_yes]

/-- Is there a 255? -/
def goneAt (b : List UInt8) (p : Int) : Bool := decide (0 ≤ p ∧ p < b.length ∧ (b.getD p.toNat 0).toNat = 255)
theorem gone_yes {b : List UInt8} {s : Rdr} {p : Int} (h : RdAt b s p) (hg : goneAt b p = true) : RdAt b (valueS s).2 (p + 1) ∧ (valueS s).1 = (true, []) := by
  obtain ⟨h1, h2, h3⟩ := of_decide_eq_true hg
  rcases h with ⟨g0, _, _, g3⟩ | ⟨_, g1⟩
  · obtain ⟨r, f⟩ := s
    obtain rfl : f = false := g0
    obtain rfl : r = b.drop p.toNat := g3
    have e := byte_at (b := b) (n := p.toNat) (by omega)
    unfold valueS
    rw [e]
    dsimp only
    rw [if_pos h3]
    have e2 : (p + 1).toNat = p.toNat + 1 := by omega
    exact ⟨.inl ⟨rfl, by omega, by omega, by rw [e2]⟩, rfl⟩
  · omega
theorem gone_no {b : List UInt8} {s : Rdr} {p : Int} (h : RdAt b s p) (hg : goneAt b p = false) : RdAt b (valueS s).2 (pieceAt b p).2 ∧ ((valueS s).2.2 = false → (valueS s).1 = (false, (pieceAt b p).1)) := by
  have hn : ¬ (0 ≤ p ∧ p < b.length ∧ (b.getD p.toNat 0).toNat = 255) := of_decide_eq_false hg
  obtain ⟨h1, h2⟩ := piece_at h
  have e : (byteS s).1 ≠ 255 ∧ (valueS s) = ((false, (pieceS s).1), (pieceS s).2) := by
    have h3 : (byteS s).1 ≠ 255 := by
      rcases h with ⟨g0, g1, g2, g3⟩ | ⟨g0, _⟩
      · obtain ⟨r, f⟩ := s
        obtain rfl : f = false := g0
        obtain rfl : r = b.drop p.toNat := g3
        by_cases hl : p.toNat < b.length
        · rw [byte_at hl]; exact fun h => hn ⟨g1, by omega, h⟩
        · rw [byte_no (.inl (List.drop_eq_nil_of_le (by omega)))]; exact fun h => by cases h
      · rw [byte_no (.inr g0)]; exact fun h => by cases h
    refine ⟨h3, ?_⟩
    unfold valueS
    rw [if_neg h3]
    rfl
  rw [e.2]
  exact ⟨h1, fun h => by rw [h2 h]⟩
end Go.Proofs.YteacjkihjeiafaaDoor
namespace Go.Proofs.YteacjkihjeiafaaDoor
open Go.RowKit
set_option linter.unusedVariables false
set_option linter.unusedSimpArgs false

theorem bs_sub {S : Nat → Prop} {w : World} {A : Option Addr} {l : List UInt8} (h : Bs S w A l) (i n : Nat) : Bs S w (Option.map (fun x => x.add i) A) ((l.drop i).take n) := by
  intro hl
  have hln : i < l.length := by rw [List.length_take, List.length_drop] at hl; omega
  obtain ⟨b, off, e, h0, hlt, hi⟩ := h (by omega)
  subst e
  refine ⟨b, off + i, by rw [Option.map_some, add_at], h0, hlt, fun j hj => ?_⟩
  have hj' : i + j < l.length := by rw [List.length_take, List.length_drop] at hj; omega
  obtain ⟨cs, h1, h2, h3⟩ := hi (i + j) hj'
  refine ⟨cs, h1, fun n hn => ?_, ?_⟩
  · rw [← h2 n hn]
    congr 2
    omega
  · rw [List.getElem_take, List.getElem_drop]
    exact h3
theorem joinedNil_at (w : World) (A : Option Addr) (n : Nat) (a : List UInt8) (hl : n = a.length) (c : Nat) (ha : Bs All w A a) (hn : a.length ≤ big) :
    Calls Tryd.prog 55 #[.slice A n c, .slice none 0 0] w (RetSLc 1 ByteR w a) := by
  subst hl
  exact joinedNil_cap w A a c ha hn
/-- The call returns a piece and where it ends. -/
def RetPiece (w : World) (r : List UInt8 × Int) (e : Ending) (w' : World) : Prop :=
  ∃ B d, e = .returned (.tuple #[.slice B r.1.length d, .int .i64 r.2]) ∧ Bs (From w.heap.size) w' B r.1 ∧ Below w.heap.size w w'
set_option maxRecDepth 100000 in
set_option maxHeartbeats 1000000 in
theorem piece_ok (w : World) (A : Option Addr) (b : List UInt8) (c : Nat) (p : Int) (ha : Bs All w A b) (hc : b.length ≤ c) (hb : b.length ≤ 4000) :
    Calls Tryd.prog 133 #[.slice A b.length c, .int .i64 p] w (RetPiece w (pieceAt b p)) := by
  have Ha := Lib.hid ha
  clear ha
  by_cases h0 : p < 0
  · have e : pieceAt b p = ([], -1) := by unfold pieceAt; rw [if_neg (by omega)]
    rw [e]
    clear e
    go_enter Tryd.func133, Tryd.ntmps133
    go_wp2
    go_ret2
    exact ⟨none, 0, rfl, SL.nil, by repeat' (first | exact Below.refl _ _ | assumption | refine Below.drew ?_ | refine below_drewN ?_ _ | refine Below.alloc ?_ (by first | exact Nat.le_refl _ | omega | (simp; done) | (simp; omega)) _)⟩
  · obtain ⟨m, rfl⟩ : ∃ m : Nat, p = m := ⟨p.toNat, by omega⟩
    by_cases h1 : b.length ≤ m
    · have e : pieceAt b m = ([], -1) := by unfold pieceAt; rw [if_neg (by omega)]
      rw [e]
      clear e
      have h2 : decide ((b.length : Int) ≤ (m : Int)) = true := decide_eq_true (by omega)
      go_enter Tryd.func133, Tryd.ntmps133
      go_wp2
      go_ret2
      exact ⟨none, 0, rfl, SL.nil, by repeat' (first | exact Below.refl _ _ | assumption | refine Below.drew ?_ | refine below_drewN ?_ _ | refine Below.alloc ?_ (by first | exact Nat.le_refl _ | omega | (simp; done) | (simp; omega)) _)⟩
    · have h2 : decide ((b.length : Int) ≤ (m : Int)) = false := decide_eq_false (by omega)
      obtain ⟨g, off, rfl, hS, hlt, hcell⟩ := Ha.out.bat (k := m) (by omega)
      obtain ⟨x, hx⟩ : ∃ x, x = b[m]'(by omega) := ⟨_, rfl⟩
      have hxl := x.toNat_lt
      have hget : b.getD m 0 = x := by rw [hx, List.getD_eq_getElem?_getD, List.getElem?_eq_getElem (by omega)]; rfl
      rw [← hx] at hcell
      have w1 : IntKind.i64.wrap ((m : Int) + 1) = (m : Int) + 1 := IntWalk.i64_in _ (by omega)
      have w2 : IntKind.i64.wrap ((m : Int) + 1 + (x.toNat : Int)) = (m : Int) + 1 + (x.toNat : Int) := IntWalk.i64_in _ (by omega)
      have hi0 : (0 : Int) ≤ (m : Int) := by omega
      have hi1 : (m : Int) < (b.length : Int) := by omega
      by_cases h3 : b.length < m + 1 + x.toNat
      · have e : pieceAt b m = ([], -1) := by unfold pieceAt; rw [if_neg (by rw [Int.toNat_natCast, hget]; omega)]
        rw [e]
        clear e hx hget
        have h4 : decide ((b.length : Int) < (m : Int) + 1 + (x.toNat : Int)) = true := decide_eq_true (by omega)
        go_enter Tryd.func133, Tryd.ntmps133
        go_wp2
        go_ret2
        exact ⟨none, 0, rfl, SL.nil, by repeat' (first | exact Below.refl _ _ | assumption | refine Below.drew ?_ | refine below_drewN ?_ _ | refine Below.alloc ?_ (by first | exact Nat.le_refl _ | omega | (simp; done) | (simp; omega)) _)⟩
      · have He := Lib.hid (show pieceAt b m = ((b.drop (m + 1)).take x.toNat, (m : Int) + 1 + x.toNat) by
          unfold pieceAt
          rw [Int.toNat_natCast, hget, if_pos (by omega)])
        clear hx hget
        have h4 : decide ((b.length : Int) < (m : Int) + 1 + (x.toNat : Int)) = false := decide_eq_false (by omega)
        have s0 : (0 : Int) ≤ (m : Int) + 1 := by omega
        have s1 : (m : Int) + 1 ≤ (m : Int) + 1 + (x.toNat : Int) := by omega
        have s2 : (m : Int) + 1 + (x.toNat : Int) ≤ (c : Int) := by omega
        go_enter Tryd.func133, Tryd.ntmps133
        go_wp2_with fail
        all_goals
          refine (joinedNil_at _ _ _ ((b.drop (m + 1)).take x.toNat) ?hn _ ?hs ?hb).mono ?_
          case hn => rw [List.length_take, List.length_drop]; omega
          case hb => rw [List.length_take, List.length_drop]; unfold big; omega
          case hs => first | exact bs_sub Ha.out (m + 1) _ | (rw [List.drop_eq_nil_of_le (by omega), List.take_nil]; exact SL.nil)
          rintro e w5 ⟨A5, c5, rfl, _, hs5, hb5⟩
          go_wp2
          go_ret2
          rw [He.out]
          exact ⟨A5, c5, by rw [List.length_take, List.length_drop]; rfl, hs5, hb5⟩
end Go.Proofs.YteacjkihjeiafaaDoor
namespace Go.Proofs.YteacjkihjeiafaaDoor
open Go.RowKit
set_option linter.unusedVariables false
set_option linter.unusedSimpArgs false

/-- A reader at block R. -/
structure RdrAt (w : World) (R : Nat) (s : Rdr) : Prop where
  box : ∃ A c, w.heap[R]? = some (.cells #[.slice A s.1.length c, .bool s.2] 124 (0, 0)) ∧ s.1.length ≤ c ∧ Bs (fun b => b < R) w A s.1
theorem Same.weak {S S' : Nat → Prop} {w w' : World} (h : Same S w w') (hs : ∀ k, S' k → S k) : Same S' w w' := ⟨h.size, fun k hk hk2 => h.block k (hs k hk) hk2⟩
theorem RdrAt.same {w w' : World} {R : Nat} {s : Rdr} (h : RdrAt w R s) (hs : Same (fun b => b ≤ R) w w') : RdrAt w' R s := by
  obtain ⟨A, c, hx, hc, ha⟩ := h.box
  exact ⟨A, c, (hs.block R (Nat.le_refl R) (Array.getElem?_eq_some_iff.1 hx).1).trans hx, hc, ha.bsame (hs.weak fun k hk => Nat.le_of_lt hk)⟩
/-- The call returns the bytes taken, in new memory; the reader is further on; all else stays. -/
def RetTake (w : World) (R : Nat) (r : List UInt8 × Rdr) (e : Ending) (w' : World) : Prop :=
  ∃ B d, e = .returned (.slice B r.1.length d) ∧ Bs (From w.heap.size) w' B r.1 ∧ RdrAt w' R r.2 ∧ Same (fun b => b ≠ R) w w' ∧ Below R w w'
theorem made_bytes (n : Nat) : madeCells #[Value.int .u8 0] n = ((List.replicate n (0 : UInt8)).map bv).toArray := by
  apply Array.ext'
  rw [toList_madeCells_one]
  simp [bv]
theorem clone_at (w : World) (A : Option Addr) (n : Nat) (a : List UInt8) (hl : n = a.length) (c : Nat) (ha : Bs All w A a) (hn : a.length ≤ big) :
    Calls Tryd.prog 68 #[.slice A n c] w (RetSLc 1 ByteR w a) := by
  subst hl
  exact clone_cap w A a c ha hn
theorem bs_drop {S : Nat → Prop} {w : World} {A : Option Addr} {l : List UInt8} (h : Bs S w A l) (i : Nat) : Bs S w (Option.map (fun x => x.add i) A) (l.drop i) := by
  have := bs_sub h i (l.length - i)
  rwa [List.take_of_length_le (by rw [List.length_drop]; omega)] at this
theorem bs_take {S : Nat → Prop} {w : World} {A : Option Addr} {l : List UInt8} (h : Bs S w A l) (n : Nat) : Bs S w A (l.take n) := by
  have := bs_sub h 0 n
  rw [List.drop_zero] at this
  cases A with
  | none => exact this
  | some a => obtain ⟨b, off, sp⟩ := a; exact this
set_option maxRecDepth 100000 in
set_option maxHeartbeats 2000000 in
theorem take_ok (w : World) (R : Nat) (s : Rdr) (n : Nat) (h : RdrAt w R s) (hn : n ≤ 255) (hb : s.1.length ≤ 4000) :
    Calls Tryd.prog 99 #[.pointer (some ⟨R, 0, none⟩), .int .i64 n] w (RetTake w R (takeS s n)) := by
  obtain ⟨A, c, hx, hc, ha⟩ := h.box
  have hR : R < w.heap.size := (Array.getElem?_eq_some_iff.1 hx).1
  obtain ⟨g0, g1, f0, f1⟩ := box2 hx
  have Ha := Lib.hid ha
  have Hx := Lib.hid hx
  have hmk := run_make_row' (P := Tryd.prog) 22 5 (.int .u8 0) 1 Tryd.underlying22 info_u8 rfl .i64 .i64 n (by omega) (by omega)
  clear ha h hx
  obtain ⟨l, f⟩ := s
  dsimp only at *
  by_cases hs : f = true ∨ l.length < n
  · have Hv := Lib.hid (show takeS (l, f) n = (List.replicate n 0, (l, true)) by unfold takeS; rw [if_pos hs])
    cases f
    · have h1 : l.length < n := by rcases hs with h | h; cases h; exact h
      clear hs
      go_enter Tryd.func99, Tryd.ntmps99
      go_wp2
      go_ret
      rw [Hv.out]
      refine ⟨some ⟨w.heap.size, 0, none⟩, n, by rw [List.length_replicate]; rfl, bs_block (t := 5) ?_ (Nat.le_refl _), ⟨A, c, ?_, hc, ?_⟩, ?_, ?_⟩
      · rw [← made_bytes]
        have := heap_alloc_new (w.setCell ⟨R, 1, none⟩ (.bool true)) (.cells (madeCells #[Value.int .u8 0] n) 5)
        simpa using this
      · rw [heap_alloc_old _ _ (by simpa using hR), heap_setCell_same _ _ _ _ _ _ Hx.out]
        rfl
      · exact Ha.out.bsame (((Same.refl _ _).setCell (by simp) _).alloc _)
      · exact ((Same.refl _ _).setCell (by simp) _).alloc _
      · exact ((Below.refl R w).setCell (p := ⟨R, 1, none⟩) (Nat.le_refl _) (.bool true)).alloc (by simp; omega) _
    · clear hs
      go_enter Tryd.func99, Tryd.ntmps99
      go_wp2
      go_ret
      rw [Hv.out]
      refine ⟨some ⟨w.heap.size, 0, none⟩, n, by rw [List.length_replicate]; rfl, bs_block (t := 5) ?_ (Nat.le_refl _), ⟨A, c, ?_, hc, ?_⟩, ?_, ?_⟩
      · rw [← made_bytes]
        have := heap_alloc_new (w.setCell ⟨R, 1, none⟩ (.bool true)) (.cells (madeCells #[Value.int .u8 0] n) 5)
        simpa using this
      · rw [heap_alloc_old _ _ (by simpa using hR), heap_setCell_same _ _ _ _ _ _ Hx.out]
        rfl
      · exact Ha.out.bsame (((Same.refl _ _).setCell (by simp) _).alloc _)
      · exact ((Same.refl _ _).setCell (by simp) _).alloc _
      · exact ((Below.refl R w).setCell (p := ⟨R, 1, none⟩) (Nat.le_refl _) (.bool true)).alloc (by simp; omega) _
  · have hf : f = false := by cases f; rfl; exact absurd (.inl rfl) hs
    subst hf
    have hnl : n ≤ l.length := by omega
    have Hv := Lib.hid (show takeS (l, false) n = (l.take n, (l.drop n, false)) by unfold takeS; rw [if_neg hs])
    have h1 : ¬ l.length < n := by omega
    have s0 : (0 : Int) ≤ (n : Int) := by omega
    have s1 : (n : Int) ≤ (c : Int) := by omega
    have s2 : (n : Int) ≤ (l.length : Int) := by omega
    have s3 : (l.length : Int) ≤ (c : Int) := by omega
    clear hs
    go_enter Tryd.func99, Tryd.ntmps99
    go_wp2_with (go_at_call 68; (with_reducible refine (clone_at _ A n (l.take n) ?hn n ?ha ?hb).mono ?_); (case hn => (rw [List.length_take]; omega)); (case hb => (rw [List.length_take]; unfold big; omega)); (case ha => exact ((bs_take Ha.out n).bsame ((Same.refl _ _).setCell (by simp) _)).bz); rintro e w5 ⟨A5, c5, rfl, _, hs5, hb5⟩)
    all_goals
      have hln : (l.take n).length = n := by rw [List.length_take]; omega
      have Hbs := Lib.hid (show Bs (fun b => b < R) w (if c = n then A else Option.map (fun x => x.add n) A) (l.drop n) by
        by_cases hcn : c = n
        · rw [if_pos hcn, List.drop_eq_nil_of_le (by omega)]
          exact SL.nil
        · rw [if_neg hcn]
          exact bs_drop Ha.out n)
      go_ret
      rw [Hv.out]
      refine ⟨A5, c5, ?_, hs5.blo (by simp), ⟨(if c = n then A else Option.map (fun x => x.add n) A), c - n, (hb5.block R (by simpa using hR)).trans ((heap_setCell_same _ _ _ _ _ _ Hx.out).trans ?_), ?_, ?_⟩, ((Same.refl _ _).setCell (by simp) _).trans (Same.of_below hb5), Below.next ((Below.refl R w).setCell (p := ⟨R, 0, none⟩) (Nat.le_refl _) _) hb5 (by simp; omega)⟩
      · show _ = Ending.returned (.slice A5 (l.take n).length c5)
        rw [hln]
        rfl
      · show _ = some (Obj.cells #[.slice (if c = n then A else Option.map (fun x => x.add n) A) (l.drop n).length (c - n), .bool false] 124 (0, 0))
        rw [List.length_drop]
        rfl
      · show (l.drop n).length ≤ c - n
        rw [List.length_drop]
        omega
      · exact Hbs.out.bsame (((Same.refl _ _).setCell (by simp) _).trans (Same.of_below hb5))
/-- The next byte; the reader is further on; all else stays. -/
def RetByte (w : World) (R : Nat) (r : Nat × Rdr) (e : Ending) (w' : World) : Prop :=
  e = .returned (.int .i64 (r.1 : Int)) ∧ RdrAt w' R r.2 ∧ Same (fun b => b ≠ R) w w' ∧ Below R w w'
set_option maxRecDepth 100000 in
set_option maxHeartbeats 2000000 in
theorem byte_ok (w : World) (R : Nat) (s : Rdr) (h : RdrAt w R s) (hb : s.1.length ≤ 4000) :
    Calls Tryd.prog 98 #[.pointer (some ⟨R, 0, none⟩)] w (RetByte w R (byteS s)) := by
  have H := Lib.hid h
  have hl1 := take_len s 1
  obtain ⟨x, hx⟩ : ∃ x, (takeS s 1).1 = [x] := List.length_eq_one_iff.1 hl1
  have Hv := Lib.hid (show (byteS s).1 = x.toNat by unfold byteS; rw [hx]; rfl)
  have hxl := x.toNat_lt
  clear hl1 h
  go_enter Tryd.func98, Tryd.ntmps98
  go_wp2_with (go_at_call 99; refine (take_ok _ R s 1 H.out (by omega) hb).mono ?_; rintro e w1 ⟨B, d, rfl, hs, hr, hsm, hbl⟩; rw [hx] at hs ⊢; obtain ⟨g, off, rfl, hS, hlt, hcell⟩ := hs.bat (k := 0) (by simp); simp only [List.getElem_cons_zero, Nat.add_zero] at hcell)
  go_ret
  exact ⟨by rw [Hv.out]; rfl, hr, hsm, hbl⟩
end Go.Proofs.YteacjkihjeiafaaDoor
namespace Go.Proofs.YteacjkihjeiafaaDoor
open Go.RowKit
set_option linter.unusedVariables false
set_option linter.unusedSimpArgs false

/-- The call returns a commit of its own memory, and a number. -/
def RetCmE (w : World) (r : Cm × Int) (e : Ending) (w' : World) : Prop :=
  ∃ A n, e = .returned (.tuple #[.agg #[.int .i64 r.1.1, .slice A r.1.2.length n], .int .i64 r.2]) ∧ Ws (From w.heap.size) w' A r.1.2 ∧ Below w.heap.size w w'
theorem byte_to {w : World} {R : Nat} {s s' : Rdr} {n : Nat} (e : byteS s = (n, s')) (h : RdrAt w R s) (hb : s.1.length ≤ 4000) :
    Calls Tryd.prog 98 #[.pointer (some ⟨R, 0, none⟩)] w (fun e w' => e = .returned (.int .i64 (n : Int)) ∧ RdrAt w' R s' ∧ Same (fun b => b ≠ R) w w' ∧ Below R w w') := by
  have h := byte_ok w R s h hb
  rw [e] at h
  exact h
theorem take_to {w : World} {R : Nat} {s s' : Rdr} {n : Nat} {x : List UInt8} (e : takeS s n = (x, s')) (h : RdrAt w R s) (hn : n ≤ 255) (hb : s.1.length ≤ 4000) :
    Calls Tryd.prog 99 #[.pointer (some ⟨R, 0, none⟩), .int .i64 n] w (fun e w' => ∃ B d, e = .returned (.slice B x.length d) ∧ Bs (From w.heap.size) w' B x ∧ RdrAt w' R s' ∧ Same (fun b => b ≠ R) w w' ∧ Below R w w') := by
  have h := take_ok w R s n h hn hb
  rw [e] at h
  exact h
theorem or_turn (x y z : Nat) (hx : x < 256) (hy : y < 256) (hz : z < 256) :
    Go.bits .or .i64 (Go.bits .or .i64 (IntKind.i64.wrap ((x : Int) * 65536)) (IntKind.i64.wrap ((y : Int) * 256))) (z : Int) = ((65536 * x + 256 * y + z : Nat) : Int) := by
  have wr : ∀ n : Int, 0 ≤ n → n < 2 ^ 62 → IntKind.i64.wrap n = n := fun n h0 h1 => IntWalk.i64_in _ (by omega)
  rw [wr _ (by omega) (by omega), wr _ (by omega) (by omega)]
  rw [bits_join .i64 62 (by decide) wr 16 ((x : Int) * 65536) ((y : Int) * 256) (by omega) (by omega) (by omega) (by omega) (by omega) (by omega)]
  rw [bits_join .i64 62 (by decide) wr 8 ((x : Int) * 65536 + (y : Int) * 256) (z : Int) (by omega) (by omega) (by omega) (by omega) (by omega) (by omega)]
  omega
/-- Decode behind k writes: the reader at block R, the commit at block C, the result at block G. -/
structure DecAt (w : World) (R C base : Nat) (b : List UInt8) (k : Nat) (v : Value) (wr : World) : Prop where
  rdr : RdrAt wr R (wrsS (dheadS b) k).2
  com : wr.heap[C]? = some (.cells #[.int .i64 (turnS b : Nat), v] 48 (0, 0))
  own : Own 4 WrR (From base) wr base 117 v (wrsS (dheadS b) k).1
  res : wr.heap[w.heap.size]? = some (.cells #[.int .i64 0, .slice none 0 0] 48 (0, 0))
  bel : Below w.heap.size w wr
  siz : base ≤ wr.heap.size
theorem head_rest (b : List UInt8) : (dheadS b).1.length ≤ b.length := Nat.le_trans (byte_rest _) (Nat.le_trans (byte_rest _) (Nat.le_trans (byte_rest _) (byte_rest _)))
set_option maxRecDepth 100000 in
set_option maxHeartbeats 4000000 in
theorem decode_ok (w : World) (A : Option Addr) (b : List UInt8) (c : Nat) (ha : Bs All w A b) (hc : b.length ≤ c) :
    Calls Tryd.prog 58 #[.slice A b.length c] w (RetCmE w (decS b)) := by
  obtain ⟨i0, hi0, hz0, hz1, hz2⟩ := info_parts info_wr
  by_cases hb : 4000 < b.length
  · have Hv := Lib.hid (show decS b = ((0, []), 1) by unfold decS; rw [if_pos hb])
    clear ha hc
    go_enter Tryd.func58, Tryd.ntmps58
    go_wp2
    refine bodyPost_ret (v := .tuple #[.agg #[.int .i64 0, .slice none 0 0], .int .i64 1]) (by simp [results, Tryd.results58, go_sem]) rfl ?_
    rw [Hv.out]
    exact ⟨none, 0, rfl, SL.nil, by repeat' (first | exact Below.refl _ _ | assumption | refine Below.drew ?_ | refine below_drewN ?_ _ | refine Below.setCell ?_ (by first | (simp; done) | omega | (simp; omega)) _ | refine Below.alloc ?_ (by first | exact Nat.le_refl _ | omega | (simp; done) | (simp; omega)) _)⟩
  · have hb' : b.length ≤ 4000 := by omega
    have Hr0 := Lib.hid (show RdrAt ((w.alloc (.cells #[.int .i64 0, .slice none 0 0] 48)).alloc (.cells #[.slice A b.length c, .bool false] 124)) (w.heap.size + 1) (b, false) from
      ⟨A, c, by have := heap_alloc_new (w.alloc (.cells #[.int .i64 0, .slice none 0 0] 48)) (.cells #[.slice A b.length c, .bool false] 124); simpa using this, hc, ((ha.low byteR_stays (n := w.heap.size + 1) (by omega)).bsame (((Same.refl _ _).alloc _).alloc _)).bless fun b _ h => h⟩)
    clear ha
    go_enter Tryd.func58, Tryd.ntmps58
    go_wp2_with (first
      | (go_at_call 98; (with_reducible refine (byte_ok _ (w.heap.size + 1) (b, false) ?h hb').mono ?_); (case h => exact Hr0.out); rintro e w1 ⟨rfl, hr1, hsm1, hbl1⟩)
      | (go_at_call 98; (with_reducible refine (byte_ok _ (w.heap.size + 1) (byteS (b, false)).2 ?h ?hb).mono ?_); (case h => exact hr1); (case hb => exact Nat.le_trans (byte_rest _) hb'); rintro e w2 ⟨rfl, hr2, hsm2, hbl2⟩)
      | (go_at_call 98; (with_reducible refine (byte_ok _ (w.heap.size + 1) (byteS (byteS (b, false)).2).2 ?h ?hb).mono ?_); (case h => exact hr2); (case hb => exact Nat.le_trans (byte_rest _) (Nat.le_trans (byte_rest _) hb')); rintro e w3 ⟨rfl, hr3, hsm3, hbl3⟩)
      | (go_at_call 98; (with_reducible refine (byte_ok _ (w.heap.size + 1) (byteS (byteS (byteS (b, false)).2).2).2 ?h ?hb).mono ?_); (case h => exact hr3.same ((Same.refl _ _).alloc _)); (case hb => exact Nat.le_trans (byte_rest _) (Nat.le_trans (byte_rest _) (Nat.le_trans (byte_rest _) hb'))); rintro e w4 ⟨rfl, hr4, hsm4, hbl4⟩))
    have z1 := hsm1.size
    have z2 := hsm2.size
    have z3 := hsm3.size
    have z4 := hsm4.size
    simp at z1 z4
    have hD : DecAt w (w.heap.size + 1) w3.heap.size w4.heap.size b 0 (.slice none 0 0) w4 := by
      have hs14 : Same (fun b => b ≠ w.heap.size + 1) ((w.alloc (.cells #[.int .i64 0, .slice none 0 0] 48)).alloc (.cells #[.slice A b.length c, .bool false] 124)) w4 := ((hsm1.trans hsm2).trans hsm3).trans ((Same.refl _ _).alloc _ |>.trans hsm4)
      refine ⟨hr4, ?_, Own.nil _ _ _, ?_, ?_, Nat.le_refl _⟩
      · refine (hsm4.block w3.heap.size (by omega) (by simp)).trans ((box_new w3 _ _).trans ?_)
        rw [← IntWalk.i64_left, ← IntWalk.i64_left]
        have e := or_turn (byteS (b, false)).1 (byteS (byteS (b, false)).2).1 (byteS (byteS (byteS (b, false)).2).2).1 (rdByte_lt _) (rdByte_lt _) (rdByte_lt _)
        exact congrArg (fun z => some (Obj.cells #[.int .i64 z, .slice none 0 0] 48 (0, 0))) (e.trans (by rfl))
      · refine (hs14.block w.heap.size (by omega) (by simp; omega)).trans ?_
        rw [heap_alloc_old _ _ (by simp)]
        exact box_new w _ _
      · exact ((((((Below.refl w.heap.size w).alloc (Nat.le_refl _) _).alloc (by simp) _).trans (hbl1.mono (by omega))).trans (hbl2.mono (by omega))).trans (hbl3.mono (by omega))).trans ((((Below.refl _ _).alloc (Nat.le_refl _) _).mono (by omega)).trans (hbl4.mono (by omega)))
    have HD := Lib.hid hD
    have hCR : w.heap.size + 1 < w3.heap.size := by omega
    have hC4 : w3.heap.size < w4.heap.size := by omega
    clear hD hr1 hr2 hr3 hr4 hsm1 hsm2 hsm3 hsm4 hbl1 hbl2 hbl3 hbl4 Hr0 z1 z2 z3 z4
    have hcnt : (byteS (byteS (byteS (byteS (b, false)).2).2).2).1 = countS b := rfl
    rw [hcnt]
    generalize w3.heap.size = C at *
    generalize w4.heap.size = base at *
    generalize hRR : w.heap.size + 1 = R at *
    go_loopw [29] (fun i wr => ∃ (k : Nat) (v : Value), k ≤ countS b ∧ i = .int .i64 k ∧ DecAt w R C base b k v wr) (fun i _ => countS b - (intOf i).toNat)
    case atStart => exact ⟨0, _, by omega, rfl, HD.out⟩
    case round =>
      obtain ⟨k, v, hk, rfl, hd⟩ := hrel
      have Hd := Lib.hid hd
      have hsz := hd.siz
      clear hd HD
      by_cases hlt : k < countS b
      · obtain ⟨s0, es0⟩ : ∃ s, s = (wrsS (dheadS b) k).2 := ⟨_, rfl⟩
        have hr0 : RdrAt wr R s0 := by rw [es0]; exact Hd.out.rdr
        have hl0 : s0.1.length ≤ 4000 := by rw [es0]; exact Nat.le_trans (wrs_rest _ _) (Nat.le_trans (head_rest b) hb')
        obtain ⟨n1, s1, e1⟩ : ∃ n s, byteS s0 = (n, s) := ⟨_, _, rfl⟩
        have hl1 : s1.1.length ≤ 4000 := by have := byte_rest s0; rw [e1] at this; exact Nat.le_trans this hl0
        have hn1 : n1 < 256 := by have := rdByte_lt s0; rw [e1] at this; exact this
        obtain ⟨x1, s2, e2⟩ : ∃ n s, takeS s1 n1 = (n, s) := ⟨_, _, rfl⟩
        have hl2 : s2.1.length ≤ 4000 := by have := take_rest s1 n1; rw [e2] at this; exact Nat.le_trans this hl1
        have hx1 : x1.length ≤ 255 := by have := take_len s1 n1; rw [e2] at this; dsimp only at this; omega
        obtain ⟨n2, s3, e3⟩ : ∃ n s, byteS s2 = (n, s) := ⟨_, _, rfl⟩
        have hl3 : s3.1.length ≤ 4000 := by have := byte_rest s2; rw [e3] at this; exact Nat.le_trans this hl2
        have hn2 : n2 < 256 := by have := rdByte_lt s2; rw [e3] at this; exact this
        obtain ⟨x2, s4, e4⟩ : ∃ n s, takeS s3 n2 = (n, s) := ⟨_, _, rfl⟩
        have hl4 : s4.1.length ≤ 4000 := by have := take_rest s3 n2; rw [e4] at this; exact Nat.le_trans this hl3
        have hx2 : x2.length ≤ 255 := by have := take_len s3 n2; rw [e4] at this; dsimp only at this; omega
        obtain ⟨n3, s5, e5⟩ : ∃ n s, byteS s4 = (n, s) := ⟨_, _, rfl⟩
        have hl5 : s5.1.length ≤ 4000 := by have := byte_rest s4; rw [e5] at this; exact Nat.le_trans this hl4
        have hn3 : n3 < 256 := by have := rdByte_lt s4; rw [e5] at this; exact this
        have p1 : pieceS s0 = (x1, s2) := by unfold pieceS; rw [e1]; exact e2
        have p2 : pieceS s2 = (x2, s4) := by unfold pieceS; rw [e3]; exact e4
        have Hwr := Lib.hid (show wrS s0 = (⟨x1, x2, (valueS s4).1.1, (valueS s4).1.2⟩, (valueS s4).2) by unfold wrS; rw [p1]; dsimp only; rw [p2])
        clear p1 p2
        have hl8 : (wrsS (dheadS b) k).1.length = k := wrs_len _ _
        have hk255 : k < 255 := by have := rdByte_lt ((byteS (byteS (byteS (b, false)).2).2).2); have h2 : (byteS (byteS (byteS (byteS (b, false)).2).2).2).1 = countS b := rfl; omega
        by_cases hg : n3 = 255
        ·
          have hg' : ((n3 : Int) == 255) = true := by simp; omega
          have Hv := Lib.hid (show valueS s4 = ((true, []), s5) by unfold valueS; rw [e5]; exact if_pos hg)
          have Hnext := Lib.hid (show wrsS (dheadS b) (k + 1) = ((wrsS (dheadS b) k).1 ++ [⟨x1, x2, true, []⟩], s5) by rw [wrsS, ← es0, Hwr.out, Hv.out])
          clear hg Hv Hwr
          go_wp2_with (first
            | (go_at_call 98; (with_reducible refine (byte_to (s := s0) e1 ?h ?hb).mono ?_); (case h => exact hr0); (case hb => exact hl0); rintro e w1 ⟨rfl, hr1, hsm1, hbl1⟩; have z1 := hsm1.size)
            | (go_at_call 99; (with_reducible refine (take_to (s := s1) e2 ?h ?hn ?hb).mono ?_); (case h => exact hr1); (case hn => omega); (case hb => exact hl1); rintro e w2 ⟨B1, d1, rfl, hs1, hr2, hsm2, hbl2⟩; have z2 := hsm2.size)
            | (go_at_call 98; (with_reducible refine (byte_to (s := s2) e3 ?h ?hb).mono ?_); (case h => exact hr2.same ((Same.refl _ _).alloc _)); (case hb => exact hl2); rintro e w3 ⟨rfl, hr3, hsm3, hbl3⟩; have z3 := hsm3.size; simp at z3)
            | (go_at_call 99; (with_reducible refine (take_to (s := s3) e4 ?h ?hn ?hb).mono ?_); (case h => exact hr3); (case hn => omega); (case hb => exact hl3); rintro e w4 ⟨B2, d2, rfl, hs2, hr4, hsm4, hbl4⟩; have z4 := hsm4.size; have hW4 : w4.heap[w2.heap.size]? = some (.cells #[.slice B1 x1.length d1, .slice none 0 0, .bool false, .slice none 0 0] 117 (0, 0)) := (hsm4.block w2.heap.size (by omega) (by omega)).trans ((hsm3.block w2.heap.size (by omega) (by simp)).trans (box_new w2 _ _)); obtain ⟨qa0, qa1, qa2, qa3, qa4, qa5, qa6, qa7⟩ := box4 hW4)
            | (go_at_call 98; (with_reducible refine (byte_to (s := s4) e5 ?h ?hb).mono ?_); (case h => exact hr4.same ((Same.refl _ _).setCell (fun hq => by have hq2 : w2.heap.size ≤ R := hq; omega) _)); (case hb => exact hl4); rintro e w5 ⟨rfl, hr5, hsm5, hbl5⟩; have z5 := hsm5.size; simp at z5; have hW5 : w5.heap[w2.heap.size]? = some (.cells #[.slice B1 x1.length d1, .slice B2 x2.length d2, .bool false, .slice none 0 0] 117 (0, 0)) := (hsm5.block w2.heap.size (by omega) (by simp; omega)).trans ((heap_setCell_same _ _ _ _ _ _ hW4).trans rfl); obtain ⟨ra0, ra1, ra2, ra3, ra4, ra5, ra6, ra7⟩ := box4 hW5; have F1 : Same (fun b => b ≠ R ∧ b < wr.heap.size) wr w5 := ((((((hsm1.trans hsm2).weak (fun k h => h.1)).alloc _).trans (hsm3.weak (fun k h => h.1))).trans (hsm4.weak (fun k h => h.1))).setCell (fun hq => by have hq2 : w2.heap.size < wr.heap.size := hq.2; omega) _).trans (hsm5.weak (fun k h => h.1)); have F3 : Below w.heap.size wr w5 := ((((((hbl1.mono (by omega)).trans (hbl2.mono (by omega))).alloc (by omega) _).trans (hbl3.mono (by omega))).trans (hbl4.mono (by omega))).setCell (by simp only []; omega) _).trans (hbl5.mono (by omega)); have hB1 : Bs (fun b => wr.heap.size ≤ b ∧ b ≠ w2.heap.size) w5 B1 x1 := (hs1.bless (S' := fun b => wr.heap.size ≤ b ∧ b ≠ w2.heap.size) fun b hb h => ⟨by simp only [From] at h; omega, by omega⟩).bsame ((((((Same.refl _ _).alloc _).trans (hsm3.weak fun k h => by have := h.1; omega)).trans (hsm4.weak fun k h => by have := h.1; omega)).setCell (fun hq => hq.2 rfl) _).trans (hsm5.weak fun k h => by have := h.1; omega)); have hB2 : Bs (fun b => wr.heap.size ≤ b ∧ b ≠ w2.heap.size) w5 B2 x2 := (hs2.bless (S' := fun b => wr.heap.size ≤ b ∧ b ≠ w2.heap.size) fun b hb h => ⟨by simp only [From] at h; omega, by simp only [From] at h; omega⟩).bsame (((Same.refl _ _).setCell (fun hq => hq.2 rfl) _).trans (hsm5.weak fun k h => by have := h.1; omega)); have hCw5 : w5.heap[C]? = some (.cells #[.int .i64 (turnS b : Nat), v] 48 (0, 0)) := (F1.block C ⟨by omega, by omega⟩ (by omega)).trans Hd.out.com; obtain ⟨ca0, ca1, ca2, ca3⟩ := box2 hCw5)
            | (at_builtin; refine wpl_snoc wrR_stays (S := From base) _ rfl _ _ _ rfl base 117 i0 _ 4 80 Tryd.underlying46 hi0 hz0 hz1 hz2 rfl (by decide) v (wrsS (dheadS b) k).1 rfl ?hown _ _ [.slice B1 x1.length d1, .slice B2 x2.length d2, .bool true, .slice none 0 0] rfl rfl (new_src _ _ [.slice B1 x1.length d1, .slice B2 x2.length d2, .bool true, .slice none 0 0] _ (by simp)) (by simp [Value.oneCell']) ?hm ?hby ?hba ⟨x1, x2, true, []⟩ ?hd ?_; (case hown => (have h0 : Same (fun b => b ≠ R ∧ b < wr.heap.size) wr ((w5.setCell ⟨w2.heap.size, 2, none⟩ (.bool true)).alloc (.cells ([.slice B1 x1.length d1, .slice B2 x2.length d2, .bool true, .slice none 0 0] : List Value).toArray 117)) := (F1.setCell (fun hq => by have hq2 : w2.heap.size < wr.heap.size := hq.2; omega) _).alloc _; exact Own.same_from wrR_stays Hd.out.own ⟨h0.size, fun k hk hk2 => h0.block k ⟨by simp only [From] at hk; omega, hk2⟩ hk2⟩)); (case hm => (rw [hl8]; simp only [maxLen]; omega)); (case hby => (rw [hl8]; omega)); (case hba => (simp; omega)); (case hd => exact ⟨B1, d1, B2, d2, none, 0, rfl, (hB1.bsame (((Same.refl _ _).setCell (p := ⟨w2.heap.size, 2, none⟩) (S := fun b => wr.heap.size ≤ b ∧ b ≠ w2.heap.size) (fun hq => hq.2 rfl) (.bool true)).alloc _)).bless (fun b _ h => ⟨by have := h.1; simp only [From]; omega, Hd.out.own.apart wr.heap.size (Nat.le_refl _) b h.1⟩), (hB2.bsame (((Same.refl _ _).setCell (p := ⟨w2.heap.size, 2, none⟩) (S := fun b => wr.heap.size ≤ b ∧ b ≠ w2.heap.size) (fun hq => hq.2 rfl) (.bool true)).alloc _)).bless (fun b _ h => ⟨by have := h.1; simp only [From]; omega, Hd.out.own.apart wr.heap.size (Nat.le_refl _) b h.1⟩), SL.nil, by show x1.length ≤ 140737488355328; omega, by show x2.length ≤ 140737488355328; omega, by exact Nat.zero_le _⟩); intro v8 w8 hown8 hbw8; obtain ⟨A8, c8, rfl, _, _⟩ := hown8.readc wrR_stays; have Hown8 := Lib.hid hown8; clear hown8; have hC8 : w8.heap[C]? = some (.cells #[.int .i64 (turnS b : Nat), v] 48 (0, 0)) := (hbw8.block C (by omega)).trans ((heap_alloc_old _ _ (by simp; omega)).trans ((heap_setCell_other _ _ _ _ (by show C ≠ w2.heap.size; omega)).trans hCw5)); obtain ⟨da0, da1, da2, da3⟩ := box2 hC8; have z8 := hbw8.size; simp at z8))
          go_roundw
          case rel =>
            refine ⟨k + 1, .slice A8 (k + 1) c8, by omega, by go_num, ⟨?_, ?_, ?_, ?_, ?_, ?_⟩⟩
            · rw [Hnext.out]
              exact hr5.same (((((Same.refl (fun b => b ≤ R) w5).setCell (fun hq => by have hq2 : w2.heap.size ≤ R := hq; omega) _).alloc _).trans ⟨hbw8.size, fun k hk _ => hbw8.block k (by omega)⟩).setCell (fun hq => by have hq2 : C ≤ R := hq; omega) _)
            · rw [heap_setCell_same _ _ _ _ _ _ hC8]
              rfl
            · rw [Hnext.out]
              have h := Own.same_from wrR_stays Hown8.out ((Same.refl _ _).setCell (p := ⟨C, 1, none⟩) (fun h => by simp only [From] at h; omega) (.slice A8 (k + 1) c8))
              rw [List.length_append, hl8] at h
              exact h
            · rw [heap_setCell_other _ _ _ _ (by show w.heap.size ≠ C; omega), hbw8.block _ (by omega), heap_alloc_old _ _ (by simp; omega), heap_setCell_other _ _ _ _ (by show w.heap.size ≠ w2.heap.size; omega)]
              exact (F1.block w.heap.size ⟨by omega, by omega⟩ (by omega)).trans Hd.out.res
            · exact (((Hd.out.bel.trans F3).setCell (by show w.heap.size ≤ w2.heap.size; omega) _).alloc (by simp; omega) _).trans (hbw8.mono (by omega)) |>.setCell (by show w.heap.size ≤ C; omega) _
            · simp; omega
          case measure => simp [intOf]; omega
        ·
          have hg' : ((n3 : Int) == 255) = false := by simp; omega
          obtain ⟨x3, s6, e6⟩ : ∃ n s, takeS s5 n3 = (n, s) := ⟨_, _, rfl⟩
          have hx3 : x3.length ≤ 255 := by have := take_len s5 n3; rw [e6] at this; dsimp only at this; omega
          have Hv := Lib.hid (show valueS s4 = ((false, x3), s6) by unfold valueS; rw [e5]; dsimp only; rw [if_neg hg, e6])
          have Hnext := Lib.hid (show wrsS (dheadS b) (k + 1) = ((wrsS (dheadS b) k).1 ++ [⟨x1, x2, false, x3⟩], s6) by rw [wrsS, ← es0, Hwr.out, Hv.out])
          clear hg Hv Hwr
          go_wp2_with (first
            | (go_at_call 98; (with_reducible refine (byte_to (s := s0) e1 ?h ?hb).mono ?_); (case h => exact hr0); (case hb => exact hl0); rintro e w1 ⟨rfl, hr1, hsm1, hbl1⟩; have z1 := hsm1.size)
            | (go_at_call 99; (with_reducible refine (take_to (s := s1) e2 ?h ?hn ?hb).mono ?_); (case h => exact hr1); (case hn => omega); (case hb => exact hl1); rintro e w2 ⟨B1, d1, rfl, hs1, hr2, hsm2, hbl2⟩; have z2 := hsm2.size)
            | (go_at_call 98; (with_reducible refine (byte_to (s := s2) e3 ?h ?hb).mono ?_); (case h => exact hr2.same ((Same.refl _ _).alloc _)); (case hb => exact hl2); rintro e w3 ⟨rfl, hr3, hsm3, hbl3⟩; have z3 := hsm3.size; simp at z3)
            | (go_at_call 99; (with_reducible refine (take_to (s := s3) e4 ?h ?hn ?hb).mono ?_); (case h => exact hr3); (case hn => omega); (case hb => exact hl3); rintro e w4 ⟨B2, d2, rfl, hs2, hr4, hsm4, hbl4⟩; have z4 := hsm4.size; have hW4 : w4.heap[w2.heap.size]? = some (.cells #[.slice B1 x1.length d1, .slice none 0 0, .bool false, .slice none 0 0] 117 (0, 0)) := (hsm4.block w2.heap.size (by omega) (by omega)).trans ((hsm3.block w2.heap.size (by omega) (by simp)).trans (box_new w2 _ _)); obtain ⟨qa0, qa1, qa2, qa3, qa4, qa5, qa6, qa7⟩ := box4 hW4)
            | (go_at_call 98; (with_reducible refine (byte_to (s := s4) e5 ?h ?hb).mono ?_); (case h => exact hr4.same ((Same.refl _ _).setCell (fun hq => by have hq2 : w2.heap.size ≤ R := hq; omega) _)); (case hb => exact hl4); rintro e w5 ⟨rfl, hr5, hsm5, hbl5⟩; have z5 := hsm5.size; simp at z5; have hW5 : w5.heap[w2.heap.size]? = some (.cells #[.slice B1 x1.length d1, .slice B2 x2.length d2, .bool false, .slice none 0 0] 117 (0, 0)) := (hsm5.block w2.heap.size (by omega) (by simp; omega)).trans ((heap_setCell_same _ _ _ _ _ _ hW4).trans rfl); obtain ⟨ra0, ra1, ra2, ra3, ra4, ra5, ra6, ra7⟩ := box4 hW5; have F1 : Same (fun b => b ≠ R ∧ b < wr.heap.size) wr w5 := ((((((hsm1.trans hsm2).weak (fun k h => h.1)).alloc _).trans (hsm3.weak (fun k h => h.1))).trans (hsm4.weak (fun k h => h.1))).setCell (fun hq => by have hq2 : w2.heap.size < wr.heap.size := hq.2; omega) _).trans (hsm5.weak (fun k h => h.1)); have F3 : Below w.heap.size wr w5 := ((((((hbl1.mono (by omega)).trans (hbl2.mono (by omega))).alloc (by omega) _).trans (hbl3.mono (by omega))).trans (hbl4.mono (by omega))).setCell (by simp only []; omega) _).trans (hbl5.mono (by omega)); have hB1 : Bs (fun b => wr.heap.size ≤ b ∧ b ≠ w2.heap.size) w5 B1 x1 := (hs1.bless (S' := fun b => wr.heap.size ≤ b ∧ b ≠ w2.heap.size) fun b hb h => ⟨by simp only [From] at h; omega, by omega⟩).bsame ((((((Same.refl _ _).alloc _).trans (hsm3.weak fun k h => by have := h.1; omega)).trans (hsm4.weak fun k h => by have := h.1; omega)).setCell (fun hq => hq.2 rfl) _).trans (hsm5.weak fun k h => by have := h.1; omega)); have hB2 : Bs (fun b => wr.heap.size ≤ b ∧ b ≠ w2.heap.size) w5 B2 x2 := (hs2.bless (S' := fun b => wr.heap.size ≤ b ∧ b ≠ w2.heap.size) fun b hb h => ⟨by simp only [From] at h; omega, by simp only [From] at h; omega⟩).bsame (((Same.refl _ _).setCell (fun hq => hq.2 rfl) _).trans (hsm5.weak fun k h => by have := h.1; omega)))
            | (go_at_call 99; (with_reducible refine (take_to (s := s5) e6 ?h ?hn ?hb).mono ?_); (case h => exact hr5); (case hn => omega); (case hb => exact hl5); rintro e w6 ⟨B3, d3, rfl, hs3, hr6, hsm6, hbl6⟩; have z6 := hsm6.size; replace F1 : Same (fun b => b ≠ R ∧ b < wr.heap.size) wr w6 := F1.trans (hsm6.weak (fun k h => h.1)); replace F3 : Below w.heap.size wr w6 := F3.trans (hbl6.mono (by omega)); replace hB1 : Bs (fun b => wr.heap.size ≤ b ∧ b ≠ w2.heap.size) w6 B1 x1 := hB1.bsame (hsm6.weak fun k h => by have := h.1; omega); replace hB2 : Bs (fun b => wr.heap.size ≤ b ∧ b ≠ w2.heap.size) w6 B2 x2 := hB2.bsame (hsm6.weak fun k h => by have := h.1; omega); have hB3 : Bs (fun b => wr.heap.size ≤ b ∧ b ≠ w2.heap.size) w6 B3 x3 := hs3.bless fun b hb h => ⟨by simp only [From] at h; omega, by simp only [From] at h; omega⟩; have hW6 : w6.heap[w2.heap.size]? = some (.cells #[.slice B1 x1.length d1, .slice B2 x2.length d2, .bool false, .slice none 0 0] 117 (0, 0)) := (hsm6.block w2.heap.size (by omega) (by omega)).trans hW5; obtain ⟨sa0, sa1, sa2, sa3, sa4, sa5, sa6, sa7⟩ := box4 hW6; have hCw6 : w6.heap[C]? = some (.cells #[.int .i64 (turnS b : Nat), v] 48 (0, 0)) := (F1.block C ⟨by omega, by omega⟩ (by omega)).trans Hd.out.com; obtain ⟨ca0, ca1, ca2, ca3⟩ := box2 hCw6)
            | (at_builtin; refine wpl_snoc wrR_stays (S := From base) _ rfl _ _ _ rfl base 117 i0 _ 4 80 Tryd.underlying46 hi0 hz0 hz1 hz2 rfl (by decide) v (wrsS (dheadS b) k).1 rfl ?hown _ _ [.slice B1 x1.length d1, .slice B2 x2.length d2, .bool false, .slice B3 x3.length d3] rfl rfl (new_src _ _ [.slice B1 x1.length d1, .slice B2 x2.length d2, .bool false, .slice B3 x3.length d3] _ (by simp)) (by simp [Value.oneCell']) ?hm ?hby ?hba ⟨x1, x2, false, x3⟩ ?hd ?_; (case hown => (have h0 : Same (fun b => b ≠ R ∧ b < wr.heap.size) wr ((w6.setCell ⟨w2.heap.size, 3, none⟩ (.slice B3 x3.length d3)).alloc (.cells ([.slice B1 x1.length d1, .slice B2 x2.length d2, .bool false, .slice B3 x3.length d3] : List Value).toArray 117)) := (F1.setCell (fun hq => by have hq2 : w2.heap.size < wr.heap.size := hq.2; omega) _).alloc _; exact Own.same_from wrR_stays Hd.out.own ⟨h0.size, fun k hk hk2 => h0.block k ⟨by simp only [From] at hk; omega, hk2⟩ hk2⟩)); (case hm => (rw [hl8]; simp only [maxLen]; omega)); (case hby => (rw [hl8]; omega)); (case hba => (simp; omega)); (case hd => exact ⟨B1, d1, B2, d2, B3, d3, rfl, (hB1.bsame (((Same.refl _ _).setCell (p := ⟨w2.heap.size, 3, none⟩) (S := fun b => wr.heap.size ≤ b ∧ b ≠ w2.heap.size) (fun hq => hq.2 rfl) (.slice B3 x3.length d3)).alloc _)).bless (fun b _ h => ⟨by have := h.1; simp only [From]; omega, Hd.out.own.apart wr.heap.size (Nat.le_refl _) b h.1⟩), (hB2.bsame (((Same.refl _ _).setCell (p := ⟨w2.heap.size, 3, none⟩) (S := fun b => wr.heap.size ≤ b ∧ b ≠ w2.heap.size) (fun hq => hq.2 rfl) (.slice B3 x3.length d3)).alloc _)).bless (fun b _ h => ⟨by have := h.1; simp only [From]; omega, Hd.out.own.apart wr.heap.size (Nat.le_refl _) b h.1⟩), (hB3.bsame (((Same.refl _ _).setCell (p := ⟨w2.heap.size, 3, none⟩) (S := fun b => wr.heap.size ≤ b ∧ b ≠ w2.heap.size) (fun hq => hq.2 rfl) (.slice B3 x3.length d3)).alloc _)).bless (fun b _ h => ⟨by have := h.1; simp only [From]; omega, Hd.out.own.apart wr.heap.size (Nat.le_refl _) b h.1⟩), by show x1.length ≤ 140737488355328; omega, by show x2.length ≤ 140737488355328; omega, by show x3.length ≤ 140737488355328; omega⟩); intro v8 w8 hown8 hbw8; obtain ⟨A8, c8, rfl, _, _⟩ := hown8.readc wrR_stays; have Hown8 := Lib.hid hown8; clear hown8; have hC8 : w8.heap[C]? = some (.cells #[.int .i64 (turnS b : Nat), v] 48 (0, 0)) := (hbw8.block C (by omega)).trans ((heap_alloc_old _ _ (by simp; omega)).trans ((heap_setCell_other _ _ _ _ (by show C ≠ w2.heap.size; omega)).trans hCw6)); obtain ⟨da0, da1, da2, da3⟩ := box2 hC8; have z8 := hbw8.size; simp at z8))
          go_roundw
          case rel =>
            refine ⟨k + 1, .slice A8 (k + 1) c8, by omega, by go_num, ⟨?_, ?_, ?_, ?_, ?_, ?_⟩⟩
            · rw [Hnext.out]
              exact hr6.same (((((Same.refl (fun b => b ≤ R) w6).setCell (fun hq => by have hq2 : w2.heap.size ≤ R := hq; omega) _).alloc _).trans ⟨hbw8.size, fun k hk _ => hbw8.block k (by omega)⟩).setCell (fun hq => by have hq2 : C ≤ R := hq; omega) _)
            · rw [heap_setCell_same _ _ _ _ _ _ hC8]
              rfl
            · rw [Hnext.out]
              have h := Own.same_from wrR_stays Hown8.out ((Same.refl _ _).setCell (p := ⟨C, 1, none⟩) (fun h => by simp only [From] at h; omega) (.slice A8 (k + 1) c8))
              rw [List.length_append, hl8] at h
              exact h
            · rw [heap_setCell_other _ _ _ _ (by show w.heap.size ≠ C; omega), hbw8.block _ (by omega), heap_alloc_old _ _ (by simp; omega), heap_setCell_other _ _ _ _ (by show w.heap.size ≠ w2.heap.size; omega)]
              exact (F1.block w.heap.size ⟨by omega, by omega⟩ (by omega)).trans Hd.out.res
            · exact (((Hd.out.bel.trans F3).setCell (by show w.heap.size ≤ w2.heap.size; omega) _).alloc (by simp; omega) _).trans (hbw8.mono (by omega)) |>.setCell (by show w.heap.size ≤ C; omega) _
            · simp; omega
          case measure => simp [intOf]; omega
      · obtain rfl : k = countS b := by omega
        obtain ⟨l, el⟩ : ∃ l, l = (wrsS (dheadS b) (countS b)).1 := ⟨_, rfl⟩
        obtain ⟨rest, short, eS⟩ : ∃ r f, (wrsS (dheadS b) (countS b)).2 = (r, f) := ⟨_, _, rfl⟩
        have hll : l.length < 256 := by rw [el, wrs_len]; exact rdByte_lt _
        have hr : RdrAt wr R (rest, short) := by rw [← eS]; exact Hd.out.rdr
        have hown : Own 4 WrR (From base) wr base 117 v l := by rw [el]; exact Hd.out.own
        obtain ⟨A8, c8, rfl, _, hs8⟩ := hown.readc wrR_stays
        have Hs8 := Lib.hid hs8
        have Hr := Lib.hid hr
        obtain ⟨ca0, ca1, _⟩ := box2 Hd.out.com
        have hcm : cmS b = ((turnS b : Int), l) := by unfold cmS; rw [el]
        have hcom := Hd.out.com
        have Hres := Lib.hid Hd.out.res
        have Hbel := Lib.hid Hd.out.bel
        clear hs8 hr hown Hd el
        generalize ((turnS b : Nat) : Int) = T at *
        cases short
        · by_cases h1 : 0 < rest.length
          · have h1' : decide ((0 : Int) < (rest.length : Int)) = true := decide_eq_true (by omega)
            have Hv := Lib.hid (show decS b = ((0, []), 4) by unfold decS; rw [if_neg hb, eS]; dsimp only; rw [if_neg (by decide), if_pos h1])
            go_wp2_with (go_at_call 88; (with_reducible refine (tapeCheck_ok _ A8 T l c8 ?ha ?hn).mono ?_); (case ha => exact Hs8.out.z wrR_stays); (case hn => omega); rintro e w7 ⟨rfl, hb7⟩; have z7 := hb7.size; obtain ⟨A9, c9, hx9, _, _⟩ := (Hr.out.same (Same.of_below hb7)).box; obtain ⟨rr0, rr1, _⟩ := box2 hx9; have hG7 := (hb7.block w.heap.size (by omega)).trans Hres.out; obtain ⟨gg0, gg1, gg2, gg3⟩ := box2 hG7; have hC7 := (hb7.block C (by omega)).trans hcom; obtain ⟨cc0, cc1, _⟩ := box2 hC7)
            refine bodyPost_ret (v := .tuple #[.agg #[.int .i64 0, .slice none 0 0], .int .i64 4]) (by simp [results, Tryd.results58, go_sem, gg0, gg1]) rfl ?_
            rw [Hv.out]
            exact ⟨none, 0, rfl, SL.nil, (((Hbel.out.trans (hb7.mono (by omega))).setCell (by show w.heap.size ≤ w.heap.size; omega) _).setCell (by show w.heap.size ≤ w.heap.size; omega) _)⟩
          · have h1' : decide ((0 : Int) < (rest.length : Int)) = false := decide_eq_false (by omega)
            by_cases h2 : commitFaultS (T, l) = 0
            · have H2 := Lib.hid h2
              have Hv := Lib.hid (show decS b = ((T, l), 0) by unfold decS; rw [if_neg hb, eS]; dsimp only; rw [if_neg (by decide), if_neg h1, hcm, if_neg (by rw [h2]; decide)])
              clear h2
              go_wp2_with (go_at_call 88; (with_reducible refine (tapeCheck_ok _ A8 T l c8 ?ha ?hn).mono ?_); (case ha => exact Hs8.out.z wrR_stays); (case hn => omega); rintro e w7 ⟨rfl, hb7⟩; have z7 := hb7.size; obtain ⟨A9, c9, hx9, _, _⟩ := (Hr.out.same (Same.of_below hb7)).box; obtain ⟨rr0, rr1, _⟩ := box2 hx9; have hG7 := (hb7.block w.heap.size (by omega)).trans Hres.out; obtain ⟨gg0, gg1, gg2, gg3⟩ := box2 hG7; have hC7 := (hb7.block C (by omega)).trans hcom; obtain ⟨cc0, cc1, _⟩ := box2 hC7; rw [H2.out])
              refine bodyPost_ret (v := .tuple #[.agg #[.int .i64 T, .slice A8 l.length c8], .int .i64 0]) (by simp [results, Tryd.results58, go_sem, gg0, gg1]) rfl ?_
              rw [Hv.out]
              refine ⟨A8, c8, rfl, ?_, (((Hbel.out.trans (hb7.mono (by omega))).setCell (by show w.heap.size ≤ w.heap.size; omega) _).setCell (by show w.heap.size ≤ w.heap.size; omega) _)⟩
              exact ((Hs8.out.below wrR_stays hb7).same wrR_stays (((Same.refl _ _).setCell (fun h => by simp only [From] at h; omega) _).setCell (fun h => by simp only [From] at h; omega) _)).lo wrR_stays (by omega)
            · have h2' : (commitFaultS (T, l) != 0) = true := by simpa using h2
              have Hv := Lib.hid (show decS b = ((0, []), commitFaultS (T, l)) by unfold decS; rw [if_neg hb, eS]; dsimp only; rw [if_neg (by decide), if_neg h1, hcm, if_pos h2])
              go_wp2_with (go_at_call 88; (with_reducible refine (tapeCheck_ok _ A8 T l c8 ?ha ?hn).mono ?_); (case ha => exact Hs8.out.z wrR_stays); (case hn => omega); rintro e w7 ⟨rfl, hb7⟩; have z7 := hb7.size; obtain ⟨A9, c9, hx9, _, _⟩ := (Hr.out.same (Same.of_below hb7)).box; obtain ⟨rr0, rr1, _⟩ := box2 hx9; have hG7 := (hb7.block w.heap.size (by omega)).trans Hres.out; obtain ⟨gg0, gg1, gg2, gg3⟩ := box2 hG7; have hC7 := (hb7.block C (by omega)).trans hcom; obtain ⟨cc0, cc1, _⟩ := box2 hC7)
              refine bodyPost_ret (v := .tuple #[.agg #[.int .i64 0, .slice none 0 0], .int .i64 (commitFaultS (T, l))]) (by simp [results, Tryd.results58, go_sem, gg0, gg1]) rfl ?_
              rw [Hv.out]
              exact ⟨none, 0, rfl, SL.nil, (((Hbel.out.trans (hb7.mono (by omega))).setCell (by show w.heap.size ≤ w.heap.size; omega) _).setCell (by show w.heap.size ≤ w.heap.size; omega) _)⟩
        ·
          have Hv := Lib.hid (show decS b = ((0, []), 14) by unfold decS; rw [if_neg hb, eS]; dsimp only; rw [if_pos rfl])
          go_wp2_with (go_at_call 88; (with_reducible refine (tapeCheck_ok _ A8 T l c8 ?ha ?hn).mono ?_); (case ha => exact Hs8.out.z wrR_stays); (case hn => omega); rintro e w7 ⟨rfl, hb7⟩; have z7 := hb7.size; obtain ⟨A9, c9, hx9, _, _⟩ := (Hr.out.same (Same.of_below hb7)).box; obtain ⟨rr0, rr1, _⟩ := box2 hx9; have hG7 := (hb7.block w.heap.size (by omega)).trans Hres.out; obtain ⟨gg0, gg1, gg2, gg3⟩ := box2 hG7; have hC7 := (hb7.block C (by omega)).trans hcom; obtain ⟨cc0, cc1, _⟩ := box2 hC7)
          refine bodyPost_ret (v := .tuple #[.agg #[.int .i64 0, .slice none 0 0], .int .i64 14]) (by simp [results, Tryd.results58, go_sem, gg0, gg1]) rfl ?_
          rw [Hv.out]
          exact ⟨none, 0, rfl, SL.nil, (((Hbel.out.trans (hb7.mono (by omega))).setCell (by show w.heap.size ≤ w.heap.size; omega) _).setCell (by show w.heap.size ≤ w.heap.size; omega) _)⟩
end Go.Proofs.YteacjkihjeiafaaDoor
namespace Go.Proofs.YteacjkihjeiafaaDoor
open Go.RowKit
set_option linter.unusedVariables false
set_option linter.unusedSimpArgs false

theorem pieceAt_len (b : List UInt8) (p : Int) : (pieceAt b p).1.length ≤ 255 := by
  unfold pieceAt
  split
  · rw [List.length_take]
    have := (b.getD p.toNat 0).toNat_lt
    omega
  · exact Nat.zero_le _
theorem pieceAt_low {b : List UInt8} {p : Int} (h : ¬ (0 ≤ p ∧ p < b.length)) : pieceAt b p = ([], -1) := by
  unfold pieceAt
  rw [if_neg (fun h2 => h ⟨h2.1, h2.2.1⟩)]
theorem piece_to {w : World} {A : Option Addr} {b : List UInt8} {c : Nat} {p q : Int} {x : List UInt8} (e : pieceAt b p = (x, q)) (ha : Bs All w A b) (hc : b.length ≤ c) (hb : b.length ≤ 4000) :
    Calls Tryd.prog 133 #[.slice A b.length c, .int .i64 p] w (fun e w' => ∃ B d, e = .returned (.tuple #[.slice B x.length d, .int .i64 q]) ∧ Bs (From w.heap.size) w' B x ∧ Below w.heap.size w w') := by
  have h := piece_ok w A b c p ha hc hb
  rw [e] at h
  exact h
theorem four_of {b : List UInt8} (h : 4 ≤ b.length) : dheadS b = (b.drop 4, false) ∧ turnS b = 65536 * (b.getD 0 0).toNat + 256 * (b.getD 1 0).toNat + (b.getD 2 0).toNat ∧ countS b = (b.getD 3 0).toNat := by
  match b, h with
  | x :: y :: z :: t :: r, _ =>
    obtain ⟨h1, h2, h3⟩ := head_four (x := x) (y := y) (z := z) (t := t) (r := r)
    exact ⟨h1, h2, h3⟩
theorem bs_get {w : World} {g off : Nat} {b : List UInt8} (h : Bs All w (some ⟨g, off, none⟩) b) {k : Nat} (hk : k < b.length) : w.cell? ⟨g, off + k, none⟩ = some (.int .u8 ((b.getD k 0).toNat : Int)) := by
  obtain ⟨g', off', e, _, _, hc⟩ := h.bat hk
  cases e
  rw [hc, List.getD_eq_getElem?_getD, List.getElem?_eq_getElem hk]
  rfl
/-- CommitOf behind k writes, at place p: the commit at block C, the result at block w.heap.size. -/
structure RefAt (w : World) (C base : Nat) (b : List UInt8) (k : Nat) (p : Int) (v : Value) (wr : World) : Prop where
  rdr : RdAt b (wrsS (dheadS b) k).2 p
  long : (wrsS (dheadS b) k).2.2 = false
  com : wr.heap[C]? = some (.cells #[.int .i64 (turnS b : Nat), v] 48 (0, 0))
  own : Own 4 WrR (From base) wr base 117 v (wrsS (dheadS b) k).1
  res : wr.heap[w.heap.size]? = some (.cells #[.int .i64 0, .slice none 0 0] 48 (0, 0))
  bel : Below w.heap.size w wr
  siz : base ≤ wr.heap.size
set_option maxRecDepth 100000 in
set_option maxHeartbeats 4000000 in
theorem commitOf_ok (w : World) (A : Option Addr) (b : List UInt8) (c : Nat) (ha : Bs All w A b) (hc : b.length ≤ c) :
    Calls Tryd.prog 100 #[.slice A b.length c] w (RetCmE w (decS b)) := by
  obtain ⟨i0, hi0, hz0, hz1, hz2⟩ := info_parts info_wr
  by_cases hb : 4000 < b.length
  · have Hv := Lib.hid (show decS b = ((0, []), 1) by unfold decS; rw [if_pos hb])
    clear ha hc
    go_enter Tryd.func100, Tryd.ntmps100
    go_wp2
    refine bodyPost_ret (v := .tuple #[.agg #[.int .i64 0, .slice none 0 0], .int .i64 1]) (by simp [results, Tryd.results100, go_sem]) rfl ?_
    rw [Hv.out]
    exact ⟨none, 0, rfl, SL.nil, by repeat' (first | exact Below.refl _ _ | assumption | refine Below.drew ?_ | refine below_drewN ?_ _ | refine Below.setCell ?_ (by first | (simp; done) | omega | (simp; omega)) _ | refine Below.alloc ?_ (by first | exact Nat.le_refl _ | omega | (simp; done) | (simp; omega)) _)⟩
  · by_cases h4 : b.length < 4
    · have Hv := Lib.hid (show decS b = ((0, []), 14) by unfold decS; rw [if_neg hb, if_pos (show (wrsS (dheadS b) (countS b)).2.2 = true from wrs_short (n := 0) (s := dheadS b) (head_short h4) _ (Nat.zero_le _))])
      clear ha hc
      go_enter Tryd.func100, Tryd.ntmps100
      go_wp2
      refine bodyPost_ret (v := .tuple #[.agg #[.int .i64 0, .slice none 0 0], .int .i64 14]) (by simp [results, Tryd.results100, go_sem]) rfl ?_
      rw [Hv.out]
      exact ⟨none, 0, rfl, SL.nil, by repeat' (first | exact Below.refl _ _ | assumption | refine Below.drew ?_ | refine below_drewN ?_ _ | refine Below.setCell ?_ (by first | (simp; done) | omega | (simp; omega)) _ | refine Below.alloc ?_ (by first | exact Nat.le_refl _ | omega | (simp; done) | (simp; omega)) _)⟩
    · have hb' : b.length ≤ 4000 := by omega
      have h4' : ¬ (b.length : Int) < 4 := by omega
      obtain ⟨q1, q2, q3⟩ := four_of (b := b) (by omega)
      obtain ⟨g, off, rfl, _, hlt, _⟩ := ha.bat (k := 0) (by omega)
      have Ha := Lib.hid ha
      have Hc0 := Lib.hid (bs_get ha (k := 0) (by omega))
      have Hc1 := Lib.hid (bs_get ha (k := 1) (by omega))
      have Hc2 := Lib.hid (bs_get ha (k := 2) (by omega))
      have Hc3 := Lib.hid (bs_get ha (k := 3) (by omega))
      have y0 := (b.getD 0 0).toNat_lt
      have y1 := (b.getD 1 0).toNat_lt
      have y2 := (b.getD 2 0).toNat_lt
      have y3 := (b.getD 3 0).toNat_lt
      rw [← q3] at Hc3 y3
      have Hturn := Lib.hid q2
      have Hhead := Lib.hid q1
      generalize (b.getD 0 0).toNat = x0 at *
      generalize (b.getD 1 0).toNat = x1 at *
      generalize (b.getD 2 0).toNat = x2 at *
      have hc0 := Hc0.out
      have hc1 := Hc1.out
      have hc2 := Hc2.out
      rw [Nat.add_zero] at hc0
      have i0' : (0 : Int) < (b.length : Int) := by omega
      have i1' : (1 : Int) < (b.length : Int) := by omega
      have i2' : (2 : Int) < (b.length : Int) := by omega
      have i3' : (3 : Int) < (b.length : Int) := by omega
      have m1 : IntKind.i64.wrap (65536 * (x0 : Int)) = 65536 * (x0 : Int) := IntWalk.i64_in _ (by omega)
      have m2 : IntKind.i64.wrap (256 * (x1 : Int)) = 256 * (x1 : Int) := IntWalk.i64_in _ (by omega)
      have m3 : IntKind.i64.wrap (65536 * (x0 : Int) + 256 * (x1 : Int)) = 65536 * (x0 : Int) + 256 * (x1 : Int) := IntWalk.i64_in _ (by omega)
      have m4 : IntKind.i64.wrap (65536 * (x0 : Int) + 256 * (x1 : Int) + (x2 : Int)) = 65536 * (x0 : Int) + 256 * (x1 : Int) + (x2 : Int) := IntWalk.i64_in _ (by omega)
      clear q1 q2 q3 ha
      go_enter Tryd.func100, Tryd.ntmps100
      go_wp2_with fail
      go_region
      all_goals
        go_wp2_with fail

        go_loopw [5, 6] (fun q i wr => ∃ (k : Nat) (p : Int) (v : Value), k ≤ countS b ∧ q = .int .i64 p ∧ i = .int .i64 k ∧ RefAt w (w.heap.size + 1) (w.heap.size + 2) b k p v wr) (fun _ i _ => countS b - (intOf i).toNat)
        case atStart =>
          refine ⟨0, 4, .slice none 0 0, by omega, rfl, rfl, ⟨?_, ?_, ?_, Own.nil _ _ _, ?_, ?_, ?_⟩⟩
          · show RdAt b (dheadS b) 4
            rw [Hhead.out]
            exact .inl ⟨rfl, by omega, by omega, rfl⟩
          · show (dheadS b).2 = false
            rw [Hhead.out]
          · rw [Hturn.out]
            have h := heap_alloc_new (w.alloc (.cells #[.int .i64 0, .slice none 0 0] 48)) (.cells #[.int .i64 (65536 * (x0 : Int) + 256 * (x1 : Int) + (x2 : Int)), .slice none 0 0] 48)
            have h2 : ((w.alloc (.cells #[.int .i64 0, .slice none 0 0] 48)).alloc (.cells #[.int .i64 (65536 * (x0 : Int) + 256 * (x1 : Int) + (x2 : Int)), .slice none 0 0] 48)).heap[w.heap.size + 1]? = some (.cells #[.int .i64 ((65536 * x0 + 256 * x1 + x2 : Nat) : Int), .slice none 0 0] 48 (0, 0)) := by simpa using h
            exact h2
          · have h := heap_alloc_new w (.cells #[.int .i64 0, .slice none 0 0] 48)
            first
              | exact (heap_alloc_old _ _ (by simp)).trans h
              | (simpa using h)
          · repeat' (first | exact Below.refl _ _ | assumption | refine Below.drew ?_ | refine below_drewN ?_ _ | refine Below.setCell ?_ (by first | (simp; done) | omega | (simp; omega)) _ | refine Below.alloc ?_ (by first | exact Nat.le_refl _ | omega | (simp; done) | (simp; omega)) _)
          · simp
        case round =>
          obtain ⟨k, p, v, hk, rfl, rfl, hd⟩ := hrel
          have Hd := Lib.hid hd
          have hsz := hd.siz
          have hc3 := (hd.bel.cell (p := ⟨g, off + 3, none⟩) hlt).trans Hc3.out
          clear hd
          by_cases hk2 : k < countS b
          · have hk2' : (k : Int) < (countS b : Int) := by omega
            obtain ⟨s0, es0⟩ : ∃ s, s = (wrsS (dheadS b) k).2 := ⟨_, rfl⟩
            have hp0 : RdAt b s0 p := by rw [es0]; exact Hd.out.rdr
            obtain ⟨x1, p1, e1⟩ : ∃ x q, pieceAt b p = (x, q) := ⟨_, _, rfl⟩
            obtain ⟨x2, p2, e2⟩ : ∃ x q, pieceAt b p1 = (x, q) := ⟨_, _, rfl⟩
            obtain ⟨x3, p3, e3⟩ : ∃ x q, pieceAt b p2 = (x, q) := ⟨_, _, rfl⟩
            have hx1 : x1.length ≤ 255 := by have := pieceAt_len b p; rw [e1] at this; exact this
            have hx2 : x2.length ≤ 255 := by have := pieceAt_len b p1; rw [e2] at this; exact this
            have hx3 : x3.length ≤ 255 := by have := pieceAt_len b p2; rw [e3] at this; exact this
            obtain ⟨hp1, hv1⟩ := piece_at hp0
            rw [e1] at hp1 hv1
            obtain ⟨hp2, hv2⟩ := piece_at hp1
            rw [e2] at hp2 hv2
            dsimp only at hp1 hv1 hp2 hv2
            have hl8 : (wrsS (dheadS b) k).1.length = k := wrs_len _ _
            have Hends := Lib.hid (show (wrS s0).2.2 = true → decS b = ((0, []), 14) from fun h => by
              have h2 : (wrsS (dheadS b) (k + 1)).2.2 = true := by rw [wrsS, ← es0]; exact h
              unfold decS
              rw [if_neg hb, if_pos (show (wrsS (dheadS b) (countS b)).2.2 = true from wrs_short h2 _ (by omega))])
            have hsh1 : (valueS (pieceS (pieceS s0).2).2).2.2 = false → (pieceS s0).2.2 = false := fun h => by
              rcases Bool.eq_false_or_eq_true (pieceS s0).2.2 with h1 | h1
              · rw [value_short (piece_short h1)] at h; cases h
              · exact h1
            have hsh2 : (valueS (pieceS (pieceS s0).2).2).2.2 = false → (pieceS (pieceS s0).2).2.2 = false := fun h => by
              rcases Bool.eq_false_or_eq_true (pieceS (pieceS s0).2).2.2 with h1 | h1
              · rw [value_short h1] at h; cases h
              · exact h1
            by_cases hin : 0 ≤ p2 ∧ p2 < (b.length : Int)
            · obtain ⟨m, rfl⟩ : ∃ m : Nat, p2 = m := ⟨p2.toNat, by omega⟩
              have hm : m < b.length := by omega
              have m0 : (0 : Int) ≤ (m : Int) := by omega
              have m1' : (m : Int) < (b.length : Int) := by omega
              have mw : IntKind.i64.wrap ((m : Int) + 1) = (m : Int) + 1 := IntWalk.i64_in _ (by omega)
              have Hcm := Lib.hid (bs_get Ha.out hm)
              have hy := (b.getD m 0).toNat_lt
              by_cases h255 : (b.getD m 0).toNat = 255
              · have hg : goneAt b (m : Int) = true := decide_eq_true ⟨by omega, by omega, by rw [Int.toNat_natCast]; exact h255⟩
                obtain ⟨hrd, hval⟩ := gone_yes hp2 hg
                have hlong : (valueS (pieceS (pieceS s0).2).2).2.2 = false := by rw [at_short hrd]; exact decide_eq_false (by omega)
                have Hnext := Lib.hid (show wrsS (dheadS b) (k + 1) = ((wrsS (dheadS b) k).1 ++ [⟨x1, x2, true, []⟩], (valueS (pieceS (pieceS s0).2).2).2) by rw [wrsS, ← es0]; unfold wrS; rw [← hv1 (hsh1 hlong), ← hv2 (hsh2 hlong), hval])
                have Hrd := Lib.hid hrd
                have Hlong := Lib.hid hlong
                clear hrd hlong hval hv1 hv2 hsh1 hsh2 hp0 hp1 hp2 es0
                rw [h255] at Hcm
                clear h255 hg
                go_wp2_with (first
                  | (go_at_call 133; (with_reducible refine (piece_to (p := p) e1 ?ha hc hb').mono ?_); (case ha => exact Ha.out.bbelow (Hd.out.bel.alloc (by omega) _)); rintro e w1 ⟨B1, d1, rfl, hs1, hb1⟩; have z1 := hb1.size; simp at z1; have hW1 : w1.heap[wr.heap.size]? = some (.cells #[.slice none 0 0, .slice none 0 0, .bool false, .slice none 0 0] 117 (0, 0)) := (hb1.block wr.heap.size (by simp)).trans (box_new wr _ _); obtain ⟨qa0, qa1, qa2, qa3, qa4, qa5, qa6, qa7⟩ := box4 hW1; have F1 : Below wr.heap.size wr w1 := ((Below.refl _ _).alloc (Nat.le_refl _) _).next hb1 (by simp); have hB1 : Bs (fun b => wr.heap.size < b) w1 B1 x1 := hs1.bless fun b _ h => (by simp only [From] at h; first | omega | (simp at h; omega)))
                  | (go_at_call 133; (with_reducible refine (piece_to (p := p1) e2 ?ha hc hb').mono ?_); (case ha => exact Ha.out.bbelow ((Hd.out.bel.trans (F1.mono (by omega))).setCell (by show w.heap.size ≤ wr.heap.size; omega) _)); rintro e w2 ⟨B2, d2, rfl, hs2, hb2⟩; have z2 := hb2.size; simp at z2; have hW2 : w2.heap[wr.heap.size]? = some (.cells #[.slice B1 x1.length d1, .slice none 0 0, .bool false, .slice none 0 0] 117 (0, 0)) := (hb2.block wr.heap.size (by simp; omega)).trans ((heap_setCell_same _ _ _ _ _ _ hW1).trans rfl); obtain ⟨ra0, ra1, ra2, ra3, ra4, ra5, ra6, ra7⟩ := box4 hW2; have F2 : Below wr.heap.size wr w2 := (F1.setCell (p := ⟨wr.heap.size, 0, none⟩) (Nat.le_refl _) _).next hb2 (by simp; omega); replace hB1 : Bs (fun b => wr.heap.size < b) w2 B1 x1 := (hB1.bsame ((Same.refl _ _).setCell (p := ⟨wr.heap.size, 0, none⟩) (fun hq => Nat.lt_irrefl _ hq) _)).bbelow hb2; have hB2 : Bs (fun b => wr.heap.size < b) w2 B2 x2 := hs2.bless fun b _ h => (by simp only [From] at h; first | omega | (simp at h; omega)); have hcm := (((Hd.out.bel.trans (F2.mono (by omega))).setCell (p := ⟨wr.heap.size, 1, none⟩) (by show w.heap.size ≤ wr.heap.size; omega) (.slice B2 x2.length d2)).cell (p := ⟨g, off + m, none⟩) hlt).trans Hcm.out; have hCC := (F2.block (w.heap.size + 1) (by omega)).trans Hd.out.com; obtain ⟨ca0, ca1, ca2, ca3⟩ := box2 hCC)
                  | (at_builtin; refine wpl_snoc wrR_stays (S := From (w.heap.size + 2)) _ rfl _ _ _ rfl (w.heap.size + 2) 117 i0 _ 4 80 Tryd.underlying46 hi0 hz0 hz1 hz2 rfl (by decide) v (wrsS (dheadS b) k).1 rfl ?hown _ _ [.slice B1 x1.length d1, .slice B2 x2.length d2, .bool true, .slice none 0 0] rfl rfl (new_src _ _ [.slice B1 x1.length d1, .slice B2 x2.length d2, .bool true, .slice none 0 0] _ (by simp)) (by simp [Value.oneCell']) ?hm ?hby ?hba ⟨x1, x2, true, []⟩ ?hd ?_; (case hown => (have h0 := (((F2.setCell (p := ⟨wr.heap.size, 1, none⟩) (Nat.le_refl _) (.slice B2 x2.length d2)).setCell (p := ⟨wr.heap.size, 2, none⟩) (Nat.le_refl _) (.bool true)).alloc (by simp; omega) (.cells ([.slice B1 x1.length d1, .slice B2 x2.length d2, .bool true, .slice none 0 0] : List Value).toArray 117)); exact Own.same_from wrR_stays Hd.out.own ⟨h0.size, fun k hk hk2 => h0.block k hk2⟩)); (case hm => (rw [hl8]; simp only [maxLen]; omega)); (case hby => (rw [hl8]; omega)); (case hba => (simp; omega)); (case hd => exact ⟨B1, d1, B2, d2, none, 0, rfl, (hB1.bsame ((((Same.refl (fun b => wr.heap.size < b) w2).setCell (p := ⟨wr.heap.size, 1, none⟩) (fun hq => Nat.lt_irrefl _ hq) (.slice B2 x2.length d2)).setCell (p := ⟨wr.heap.size, 2, none⟩) (fun hq => Nat.lt_irrefl _ hq) (.bool true)).alloc _)).bless (fun b _ h => ⟨by simp only [From]; omega, Hd.out.own.apart wr.heap.size (Nat.le_refl _) b (Nat.le_of_lt h)⟩), (hB2.bsame ((((Same.refl (fun b => wr.heap.size < b) w2).setCell (p := ⟨wr.heap.size, 1, none⟩) (fun hq => Nat.lt_irrefl _ hq) (.slice B2 x2.length d2)).setCell (p := ⟨wr.heap.size, 2, none⟩) (fun hq => Nat.lt_irrefl _ hq) (.bool true)).alloc _)).bless (fun b _ h => ⟨by simp only [From]; omega, Hd.out.own.apart wr.heap.size (Nat.le_refl _) b (Nat.le_of_lt h)⟩), SL.nil, by show x1.length ≤ 140737488355328; omega, by show x2.length ≤ 140737488355328; omega, by exact Nat.zero_le _⟩); intro v8 w8 hown8 hbw8; obtain ⟨A8, c8, rfl, _, _⟩ := hown8.readc wrR_stays; have Hown8 := Lib.hid hown8; clear hown8; have hC8 : w8.heap[w.heap.size + 1]? = some (.cells #[.int .i64 (turnS b : Nat), v] 48 (0, 0)) := (hbw8.block _ (by omega)).trans ((heap_alloc_old _ _ (by simp; omega)).trans ((heap_setCell_other _ _ _ _ (by show w.heap.size + 1 ≠ wr.heap.size; omega)).trans ((heap_setCell_other _ _ _ _ (by show w.heap.size + 1 ≠ wr.heap.size; omega)).trans hCC))); obtain ⟨da0, da1, da2, da3⟩ := box2 hC8; have z8 := hbw8.size; simp at z8))
                go_roundw
                case rel =>
                  refine ⟨k + 1, ((m : Int) + 1), .slice A8 (k + 1) c8, by omega, by go_num, by go_num, ⟨?_, ?_, ?_, ?_, ?_, ?_, ?_⟩⟩
                  · rw [Hnext.out]; exact Hrd.out
                  · rw [Hnext.out]; exact Hlong.out
                  · rw [heap_setCell_same _ _ _ _ _ _ hC8]
                    rfl
                  · rw [Hnext.out]
                    have h := Own.same_from wrR_stays Hown8.out ((Same.refl _ _).setCell (p := ⟨w.heap.size + 1, 1, none⟩) (fun h => by simp only [From] at h; omega) (.slice A8 (k + 1) c8))
                    rw [List.length_append, hl8] at h
                    exact h
                  · rw [heap_setCell_other _ _ _ _ (by show w.heap.size ≠ w.heap.size + 1; omega), hbw8.block _ (by omega)]
                    exact ((((F2.setCell (p := ⟨wr.heap.size, 1, none⟩) (Nat.le_refl _) (.slice B2 x2.length d2)).setCell (p := ⟨wr.heap.size, 2, none⟩) (Nat.le_refl _) (.bool true)).alloc (by simp; omega) _).block w.heap.size (by omega)).trans Hd.out.res
                  · exact ((Hd.out.bel.trans ((((F2.setCell (p := ⟨wr.heap.size, 1, none⟩) (Nat.le_refl _) (.slice B2 x2.length d2)).setCell (p := ⟨wr.heap.size, 2, none⟩) (Nat.le_refl _) (.bool true)).alloc (by simp; omega) _).mono (by omega))).trans (hbw8.mono (by omega))).setCell (by show w.heap.size ≤ w.heap.size + 1; omega) _
                  · simp; omega
                case measure => simp [intOf]; omega
              · have hg : goneAt b (m : Int) = false := decide_eq_false (fun h => h255 (by have := h.2.2; rwa [Int.toNat_natCast] at this))
                obtain ⟨hrd, hval0⟩ := gone_no hp2 hg
                rw [e3] at hrd hval0
                dsimp only at hrd hval0
                generalize (b.getD m 0).toNat = y at *
                have hy2 : ((y : Int) == 255) = false := by simp; omega
                by_cases h3 : p3 < 0
                · have Hv := Lib.hid (show decS b = ((0, []), 14) from Hends.out (by unfold wrS; rw [at_short hrd]; exact decide_eq_true h3))
                  have h3' : decide (p3 < 0) = true := decide_eq_true h3
                  clear hrd hval0 hv1 hv2 hsh1 hsh2 hp0 hp1 hp2 es0 h255 hg
                  go_wp2_with (first
                    | (go_at_call 133; (with_reducible refine (piece_to (p := p) e1 ?ha hc hb').mono ?_); (case ha => exact Ha.out.bbelow (Hd.out.bel.alloc (by omega) _)); rintro e w1 ⟨B1, d1, rfl, hs1, hb1⟩; have z1 := hb1.size; simp at z1; have hW1 : w1.heap[wr.heap.size]? = some (.cells #[.slice none 0 0, .slice none 0 0, .bool false, .slice none 0 0] 117 (0, 0)) := (hb1.block wr.heap.size (by simp)).trans (box_new wr _ _); obtain ⟨qa0, qa1, qa2, qa3, qa4, qa5, qa6, qa7⟩ := box4 hW1; have F1 : Below wr.heap.size wr w1 := ((Below.refl _ _).alloc (Nat.le_refl _) _).next hb1 (by simp); have hB1 : Bs (fun b => wr.heap.size < b) w1 B1 x1 := hs1.bless fun b _ h => (by simp only [From] at h; first | omega | (simp at h; omega)))
                    | (go_at_call 133; (with_reducible refine (piece_to (p := p1) e2 ?ha hc hb').mono ?_); (case ha => exact Ha.out.bbelow ((Hd.out.bel.trans (F1.mono (by omega))).setCell (by show w.heap.size ≤ wr.heap.size; omega) _)); rintro e w2 ⟨B2, d2, rfl, hs2, hb2⟩; have z2 := hb2.size; simp at z2; have hW2 : w2.heap[wr.heap.size]? = some (.cells #[.slice B1 x1.length d1, .slice none 0 0, .bool false, .slice none 0 0] 117 (0, 0)) := (hb2.block wr.heap.size (by simp; omega)).trans ((heap_setCell_same _ _ _ _ _ _ hW1).trans rfl); obtain ⟨ra0, ra1, ra2, ra3, ra4, ra5, ra6, ra7⟩ := box4 hW2; have F2 : Below wr.heap.size wr w2 := (F1.setCell (p := ⟨wr.heap.size, 0, none⟩) (Nat.le_refl _) _).next hb2 (by simp; omega); replace hB1 : Bs (fun b => wr.heap.size < b) w2 B1 x1 := (hB1.bsame ((Same.refl _ _).setCell (p := ⟨wr.heap.size, 0, none⟩) (fun hq => Nat.lt_irrefl _ hq) _)).bbelow hb2; have hB2 : Bs (fun b => wr.heap.size < b) w2 B2 x2 := hs2.bless fun b _ h => (by simp only [From] at h; first | omega | (simp at h; omega)); have hcm := (((Hd.out.bel.trans (F2.mono (by omega))).setCell (p := ⟨wr.heap.size, 1, none⟩) (by show w.heap.size ≤ wr.heap.size; omega) (.slice B2 x2.length d2)).cell (p := ⟨g, off + m, none⟩) hlt).trans Hcm.out)
                    | (go_at_call 133; (with_reducible refine (piece_to (p := (m : Int)) e3 ?ha hc hb').mono ?_); (case ha => exact Ha.out.bbelow ((Hd.out.bel.trans (F2.mono (by omega))).setCell (by show w.heap.size ≤ wr.heap.size; omega) _)); rintro e w3 ⟨B3, d3, rfl, hs3, hb3⟩; have z3 := hb3.size; simp at z3; have hW3 : w3.heap[wr.heap.size]? = some (.cells #[.slice B1 x1.length d1, .slice B2 x2.length d2, .bool false, .slice none 0 0] 117 (0, 0)) := (hb3.block wr.heap.size (by simp; omega)).trans ((heap_setCell_same _ _ _ _ _ _ hW2).trans rfl); obtain ⟨sa0, sa1, sa2, sa3, sa4, sa5, sa6, sa7⟩ := box4 hW3; have F3 : Below wr.heap.size wr w3 := (F2.setCell (p := ⟨wr.heap.size, 1, none⟩) (Nat.le_refl _) _).next hb3 (by simp; omega); replace hB1 : Bs (fun b => wr.heap.size < b) w3 B1 x1 := (hB1.bsame ((Same.refl _ _).setCell (p := ⟨wr.heap.size, 1, none⟩) (fun hq => Nat.lt_irrefl _ hq) _)).bbelow hb3; replace hB2 : Bs (fun b => wr.heap.size < b) w3 B2 x2 := (hB2.bsame ((Same.refl _ _).setCell (p := ⟨wr.heap.size, 1, none⟩) (fun hq => Nat.lt_irrefl _ hq) _)).bbelow hb3; have hB3 : Bs (fun b => wr.heap.size < b) w3 B3 x3 := hs3.bless fun b _ h => (by simp only [From] at h; first | omega | (simp at h; omega)); have hG3 := (F3.block w.heap.size (by omega)).trans Hd.out.res; obtain ⟨gg0, gg1, gg2, gg3⟩ := box2 hG3; have hCC := (F3.block (w.heap.size + 1) (by omega)).trans Hd.out.com; obtain ⟨ca0, ca1, ca2, ca3⟩ := box2 hCC))
                  refine bodyPost_ret (v := .tuple #[.agg #[.int .i64 0, .slice none 0 0], .int .i64 14]) (by simp [results, Tryd.results100, go_sem, gg0, gg1]) rfl ?_
                  rw [Hv.out]
                  exact ⟨none, 0, rfl, SL.nil, (((Hd.out.bel.trans (F3.mono (by omega))).setCell (by show w.heap.size ≤ wr.heap.size; omega) _).setCell (by show w.heap.size ≤ w.heap.size; omega) _).setCell (by show w.heap.size ≤ w.heap.size; omega) _⟩
                · have hlong : (valueS (pieceS (pieceS s0).2).2).2.2 = false := by rw [at_short hrd]; exact decide_eq_false h3
                  have hval := hval0 hlong
                  have h3' : decide (p3 < 0) = false := decide_eq_false h3
                  clear hval0
                  have Hnext := Lib.hid (show wrsS (dheadS b) (k + 1) = ((wrsS (dheadS b) k).1 ++ [⟨x1, x2, false, x3⟩], (valueS (pieceS (pieceS s0).2).2).2) by rw [wrsS, ← es0]; unfold wrS; rw [← hv1 (hsh1 hlong), ← hv2 (hsh2 hlong), hval])
                  have Hrd := Lib.hid hrd
                  have Hlong := Lib.hid hlong
                  clear hrd hlong hval hv1 hv2 hsh1 hsh2 hp0 hp1 hp2 es0
                  clear h255 hg
                  go_wp2_with (first
                    | (go_at_call 133; (with_reducible refine (piece_to (p := p) e1 ?ha hc hb').mono ?_); (case ha => exact Ha.out.bbelow (Hd.out.bel.alloc (by omega) _)); rintro e w1 ⟨B1, d1, rfl, hs1, hb1⟩; have z1 := hb1.size; simp at z1; have hW1 : w1.heap[wr.heap.size]? = some (.cells #[.slice none 0 0, .slice none 0 0, .bool false, .slice none 0 0] 117 (0, 0)) := (hb1.block wr.heap.size (by simp)).trans (box_new wr _ _); obtain ⟨qa0, qa1, qa2, qa3, qa4, qa5, qa6, qa7⟩ := box4 hW1; have F1 : Below wr.heap.size wr w1 := ((Below.refl _ _).alloc (Nat.le_refl _) _).next hb1 (by simp); have hB1 : Bs (fun b => wr.heap.size < b) w1 B1 x1 := hs1.bless fun b _ h => (by simp only [From] at h; first | omega | (simp at h; omega)))
                    | (go_at_call 133; (with_reducible refine (piece_to (p := p1) e2 ?ha hc hb').mono ?_); (case ha => exact Ha.out.bbelow ((Hd.out.bel.trans (F1.mono (by omega))).setCell (by show w.heap.size ≤ wr.heap.size; omega) _)); rintro e w2 ⟨B2, d2, rfl, hs2, hb2⟩; have z2 := hb2.size; simp at z2; have hW2 : w2.heap[wr.heap.size]? = some (.cells #[.slice B1 x1.length d1, .slice none 0 0, .bool false, .slice none 0 0] 117 (0, 0)) := (hb2.block wr.heap.size (by simp; omega)).trans ((heap_setCell_same _ _ _ _ _ _ hW1).trans rfl); obtain ⟨ra0, ra1, ra2, ra3, ra4, ra5, ra6, ra7⟩ := box4 hW2; have F2 : Below wr.heap.size wr w2 := (F1.setCell (p := ⟨wr.heap.size, 0, none⟩) (Nat.le_refl _) _).next hb2 (by simp; omega); replace hB1 : Bs (fun b => wr.heap.size < b) w2 B1 x1 := (hB1.bsame ((Same.refl _ _).setCell (p := ⟨wr.heap.size, 0, none⟩) (fun hq => Nat.lt_irrefl _ hq) _)).bbelow hb2; have hB2 : Bs (fun b => wr.heap.size < b) w2 B2 x2 := hs2.bless fun b _ h => (by simp only [From] at h; first | omega | (simp at h; omega)); have hcm := (((Hd.out.bel.trans (F2.mono (by omega))).setCell (p := ⟨wr.heap.size, 1, none⟩) (by show w.heap.size ≤ wr.heap.size; omega) (.slice B2 x2.length d2)).cell (p := ⟨g, off + m, none⟩) hlt).trans Hcm.out)
                    | (go_at_call 133; (with_reducible refine (piece_to (p := (m : Int)) e3 ?ha hc hb').mono ?_); (case ha => exact Ha.out.bbelow ((Hd.out.bel.trans (F2.mono (by omega))).setCell (by show w.heap.size ≤ wr.heap.size; omega) _)); rintro e w3 ⟨B3, d3, rfl, hs3, hb3⟩; have z3 := hb3.size; simp at z3; have hW3 : w3.heap[wr.heap.size]? = some (.cells #[.slice B1 x1.length d1, .slice B2 x2.length d2, .bool false, .slice none 0 0] 117 (0, 0)) := (hb3.block wr.heap.size (by simp; omega)).trans ((heap_setCell_same _ _ _ _ _ _ hW2).trans rfl); obtain ⟨sa0, sa1, sa2, sa3, sa4, sa5, sa6, sa7⟩ := box4 hW3; have F3 : Below wr.heap.size wr w3 := (F2.setCell (p := ⟨wr.heap.size, 1, none⟩) (Nat.le_refl _) _).next hb3 (by simp; omega); replace hB1 : Bs (fun b => wr.heap.size < b) w3 B1 x1 := (hB1.bsame ((Same.refl _ _).setCell (p := ⟨wr.heap.size, 1, none⟩) (fun hq => Nat.lt_irrefl _ hq) _)).bbelow hb3; replace hB2 : Bs (fun b => wr.heap.size < b) w3 B2 x2 := (hB2.bsame ((Same.refl _ _).setCell (p := ⟨wr.heap.size, 1, none⟩) (fun hq => Nat.lt_irrefl _ hq) _)).bbelow hb3; have hB3 : Bs (fun b => wr.heap.size < b) w3 B3 x3 := hs3.bless fun b _ h => (by simp only [From] at h; first | omega | (simp at h; omega)); have hG3 := (F3.block w.heap.size (by omega)).trans Hd.out.res; obtain ⟨gg0, gg1, gg2, gg3⟩ := box2 hG3; have hCC := (F3.block (w.heap.size + 1) (by omega)).trans Hd.out.com; obtain ⟨ca0, ca1, ca2, ca3⟩ := box2 hCC)
                    | (at_builtin; refine wpl_snoc wrR_stays (S := From (w.heap.size + 2)) _ rfl _ _ _ rfl (w.heap.size + 2) 117 i0 _ 4 80 Tryd.underlying46 hi0 hz0 hz1 hz2 rfl (by decide) v (wrsS (dheadS b) k).1 rfl ?hown _ _ [.slice B1 x1.length d1, .slice B2 x2.length d2, .bool false, .slice B3 x3.length d3] rfl rfl (new_src _ _ [.slice B1 x1.length d1, .slice B2 x2.length d2, .bool false, .slice B3 x3.length d3] _ (by simp)) (by simp [Value.oneCell']) ?hm ?hby ?hba ⟨x1, x2, false, x3⟩ ?hd ?_; (case hown => (have h0 := ((F3.setCell (p := ⟨wr.heap.size, 3, none⟩) (Nat.le_refl _) (.slice B3 x3.length d3)).alloc (by simp; omega) (.cells ([.slice B1 x1.length d1, .slice B2 x2.length d2, .bool false, .slice B3 x3.length d3] : List Value).toArray 117)); exact Own.same_from wrR_stays Hd.out.own ⟨h0.size, fun k hk hk2 => h0.block k hk2⟩)); (case hm => (rw [hl8]; simp only [maxLen]; omega)); (case hby => (rw [hl8]; omega)); (case hba => (simp; omega)); (case hd => exact ⟨B1, d1, B2, d2, B3, d3, rfl, (hB1.bsame (((Same.refl (fun b => wr.heap.size < b) w3).setCell (p := ⟨wr.heap.size, 3, none⟩) (fun hq => Nat.lt_irrefl _ hq) (.slice B3 x3.length d3)).alloc _)).bless (fun b _ h => ⟨by simp only [From]; omega, Hd.out.own.apart wr.heap.size (Nat.le_refl _) b (Nat.le_of_lt h)⟩), (hB2.bsame (((Same.refl (fun b => wr.heap.size < b) w3).setCell (p := ⟨wr.heap.size, 3, none⟩) (fun hq => Nat.lt_irrefl _ hq) (.slice B3 x3.length d3)).alloc _)).bless (fun b _ h => ⟨by simp only [From]; omega, Hd.out.own.apart wr.heap.size (Nat.le_refl _) b (Nat.le_of_lt h)⟩), (hB3.bsame (((Same.refl (fun b => wr.heap.size < b) w3).setCell (p := ⟨wr.heap.size, 3, none⟩) (fun hq => Nat.lt_irrefl _ hq) (.slice B3 x3.length d3)).alloc _)).bless (fun b _ h => ⟨by simp only [From]; omega, Hd.out.own.apart wr.heap.size (Nat.le_refl _) b (Nat.le_of_lt h)⟩), by show x1.length ≤ 140737488355328; omega, by show x2.length ≤ 140737488355328; omega, by show x3.length ≤ 140737488355328; omega⟩); intro v8 w8 hown8 hbw8; obtain ⟨A8, c8, rfl, _, _⟩ := hown8.readc wrR_stays; have Hown8 := Lib.hid hown8; clear hown8; have hC8 : w8.heap[w.heap.size + 1]? = some (.cells #[.int .i64 (turnS b : Nat), v] 48 (0, 0)) := (hbw8.block _ (by omega)).trans ((heap_alloc_old _ _ (by simp; omega)).trans ((heap_setCell_other _ _ _ _ (by show w.heap.size + 1 ≠ wr.heap.size; omega)).trans hCC)); obtain ⟨da0, da1, da2, da3⟩ := box2 hC8; have z8 := hbw8.size; simp at z8))
                  go_roundw
                  case rel =>
                    refine ⟨k + 1, p3, .slice A8 (k + 1) c8, by omega, rfl, by go_num, ⟨?_, ?_, ?_, ?_, ?_, ?_, ?_⟩⟩
                    · rw [Hnext.out]; exact Hrd.out
                    · rw [Hnext.out]; exact Hlong.out
                    · rw [heap_setCell_same _ _ _ _ _ _ hC8]
                      rfl
                    · rw [Hnext.out]
                      have h := Own.same_from wrR_stays Hown8.out ((Same.refl _ _).setCell (p := ⟨w.heap.size + 1, 1, none⟩) (fun h => by simp only [From] at h; omega) (.slice A8 (k + 1) c8))
                      rw [List.length_append, hl8] at h
                      exact h
                    · rw [heap_setCell_other _ _ _ _ (by show w.heap.size ≠ w.heap.size + 1; omega), hbw8.block _ (by omega)]
                      exact (((F3.setCell (p := ⟨wr.heap.size, 3, none⟩) (Nat.le_refl _) (.slice B3 x3.length d3)).alloc (by simp; omega) _).block w.heap.size (by omega)).trans Hd.out.res
                    · exact ((Hd.out.bel.trans (((F3.setCell (p := ⟨wr.heap.size, 3, none⟩) (Nat.le_refl _) (.slice B3 x3.length d3)).alloc (by simp; omega) _).mono (by omega))).trans (hbw8.mono (by omega))).setCell (by show w.heap.size ≤ w.heap.size + 1; omega) _
                    · simp; omega
                  case measure => simp [intOf]; omega
            · have e4 := pieceAt_low hin
              rw [e3] at e4
              have hp3 : p3 = -1 := (Prod.mk.inj e4).2
              have h3 : p3 < 0 := by omega
              have h3' : decide (p3 < 0) = true := decide_eq_true h3
              have hg : goneAt b p2 = false := decide_eq_false (fun h => hin ⟨h.1, h.2.1⟩)
              obtain ⟨hrd, _⟩ := gone_no hp2 hg
              rw [e3] at hrd
              have Hv := Lib.hid (show decS b = ((0, []), 14) from Hends.out (by unfold wrS; rw [at_short hrd]; exact decide_eq_true h3))
              clear hrd hv1 hv2 hsh1 hsh2 hp0 hp1 hp2 es0 hg e4 hp3
              rcases (by omega : p2 < 0 ∨ (0 ≤ p2 ∧ (b.length : Int) ≤ p2)) with h | ⟨h, h'⟩
              · have c1 : decide ((0 : Int) ≤ p2) = false := decide_eq_false (by omega)
                go_wp2_with (first
                  | (go_at_call 133; (with_reducible refine (piece_to (p := p) e1 ?ha hc hb').mono ?_); (case ha => exact Ha.out.bbelow (Hd.out.bel.alloc (by omega) _)); rintro e w1 ⟨B1, d1, rfl, hs1, hb1⟩; have z1 := hb1.size; simp at z1; have hW1 : w1.heap[wr.heap.size]? = some (.cells #[.slice none 0 0, .slice none 0 0, .bool false, .slice none 0 0] 117 (0, 0)) := (hb1.block wr.heap.size (by simp)).trans (box_new wr _ _); obtain ⟨qa0, qa1, qa2, qa3, qa4, qa5, qa6, qa7⟩ := box4 hW1; have F1 : Below wr.heap.size wr w1 := ((Below.refl _ _).alloc (Nat.le_refl _) _).next hb1 (by simp); have hB1 : Bs (fun b => wr.heap.size < b) w1 B1 x1 := hs1.bless fun b _ h => (by simp only [From] at h; first | omega | (simp at h; omega)))
                  | (go_at_call 133; (with_reducible refine (piece_to (p := p1) e2 ?ha hc hb').mono ?_); (case ha => exact Ha.out.bbelow ((Hd.out.bel.trans (F1.mono (by omega))).setCell (by show w.heap.size ≤ wr.heap.size; omega) _)); rintro e w2 ⟨B2, d2, rfl, hs2, hb2⟩; have z2 := hb2.size; simp at z2; have hW2 : w2.heap[wr.heap.size]? = some (.cells #[.slice B1 x1.length d1, .slice none 0 0, .bool false, .slice none 0 0] 117 (0, 0)) := (hb2.block wr.heap.size (by simp; omega)).trans ((heap_setCell_same _ _ _ _ _ _ hW1).trans rfl); obtain ⟨ra0, ra1, ra2, ra3, ra4, ra5, ra6, ra7⟩ := box4 hW2; have F2 : Below wr.heap.size wr w2 := (F1.setCell (p := ⟨wr.heap.size, 0, none⟩) (Nat.le_refl _) _).next hb2 (by simp; omega); replace hB1 : Bs (fun b => wr.heap.size < b) w2 B1 x1 := (hB1.bsame ((Same.refl _ _).setCell (p := ⟨wr.heap.size, 0, none⟩) (fun hq => Nat.lt_irrefl _ hq) _)).bbelow hb2; have hB2 : Bs (fun b => wr.heap.size < b) w2 B2 x2 := hs2.bless fun b _ h => (by simp only [From] at h; first | omega | (simp at h; omega)))
                  | (go_at_call 133; (with_reducible refine (piece_to (p := p2) e3 ?ha hc hb').mono ?_); (case ha => exact Ha.out.bbelow ((Hd.out.bel.trans (F2.mono (by omega))).setCell (by show w.heap.size ≤ wr.heap.size; omega) _)); rintro e w3 ⟨B3, d3, rfl, hs3, hb3⟩; have z3 := hb3.size; simp at z3; have hW3 : w3.heap[wr.heap.size]? = some (.cells #[.slice B1 x1.length d1, .slice B2 x2.length d2, .bool false, .slice none 0 0] 117 (0, 0)) := (hb3.block wr.heap.size (by simp; omega)).trans ((heap_setCell_same _ _ _ _ _ _ hW2).trans rfl); obtain ⟨sa0, sa1, sa2, sa3, sa4, sa5, sa6, sa7⟩ := box4 hW3; have F3 : Below wr.heap.size wr w3 := (F2.setCell (p := ⟨wr.heap.size, 1, none⟩) (Nat.le_refl _) _).next hb3 (by simp; omega); replace hB1 : Bs (fun b => wr.heap.size < b) w3 B1 x1 := (hB1.bsame ((Same.refl _ _).setCell (p := ⟨wr.heap.size, 1, none⟩) (fun hq => Nat.lt_irrefl _ hq) _)).bbelow hb3; replace hB2 : Bs (fun b => wr.heap.size < b) w3 B2 x2 := (hB2.bsame ((Same.refl _ _).setCell (p := ⟨wr.heap.size, 1, none⟩) (fun hq => Nat.lt_irrefl _ hq) _)).bbelow hb3; have hB3 : Bs (fun b => wr.heap.size < b) w3 B3 x3 := hs3.bless fun b _ h => (by simp only [From] at h; first | omega | (simp at h; omega)); have hG3 := (F3.block w.heap.size (by omega)).trans Hd.out.res; obtain ⟨gg0, gg1, gg2, gg3⟩ := box2 hG3; have hCC := (F3.block (w.heap.size + 1) (by omega)).trans Hd.out.com; obtain ⟨ca0, ca1, ca2, ca3⟩ := box2 hCC))
                refine bodyPost_ret (v := .tuple #[.agg #[.int .i64 0, .slice none 0 0], .int .i64 14]) (by simp [results, Tryd.results100, go_sem, gg0, gg1]) rfl ?_
                rw [Hv.out]
                exact ⟨none, 0, rfl, SL.nil, (((Hd.out.bel.trans (F3.mono (by omega))).setCell (by show w.heap.size ≤ wr.heap.size; omega) _).setCell (by show w.heap.size ≤ w.heap.size; omega) _).setCell (by show w.heap.size ≤ w.heap.size; omega) _⟩
              · have c1 : decide ((0 : Int) ≤ p2) = true := decide_eq_true h
                have c2 : decide (p2 < (b.length : Int)) = false := decide_eq_false (by omega)
                go_wp2_with (first
                  | (go_at_call 133; (with_reducible refine (piece_to (p := p) e1 ?ha hc hb').mono ?_); (case ha => exact Ha.out.bbelow (Hd.out.bel.alloc (by omega) _)); rintro e w1 ⟨B1, d1, rfl, hs1, hb1⟩; have z1 := hb1.size; simp at z1; have hW1 : w1.heap[wr.heap.size]? = some (.cells #[.slice none 0 0, .slice none 0 0, .bool false, .slice none 0 0] 117 (0, 0)) := (hb1.block wr.heap.size (by simp)).trans (box_new wr _ _); obtain ⟨qa0, qa1, qa2, qa3, qa4, qa5, qa6, qa7⟩ := box4 hW1; have F1 : Below wr.heap.size wr w1 := ((Below.refl _ _).alloc (Nat.le_refl _) _).next hb1 (by simp); have hB1 : Bs (fun b => wr.heap.size < b) w1 B1 x1 := hs1.bless fun b _ h => (by simp only [From] at h; first | omega | (simp at h; omega)))
                  | (go_at_call 133; (with_reducible refine (piece_to (p := p1) e2 ?ha hc hb').mono ?_); (case ha => exact Ha.out.bbelow ((Hd.out.bel.trans (F1.mono (by omega))).setCell (by show w.heap.size ≤ wr.heap.size; omega) _)); rintro e w2 ⟨B2, d2, rfl, hs2, hb2⟩; have z2 := hb2.size; simp at z2; have hW2 : w2.heap[wr.heap.size]? = some (.cells #[.slice B1 x1.length d1, .slice none 0 0, .bool false, .slice none 0 0] 117 (0, 0)) := (hb2.block wr.heap.size (by simp; omega)).trans ((heap_setCell_same _ _ _ _ _ _ hW1).trans rfl); obtain ⟨ra0, ra1, ra2, ra3, ra4, ra5, ra6, ra7⟩ := box4 hW2; have F2 : Below wr.heap.size wr w2 := (F1.setCell (p := ⟨wr.heap.size, 0, none⟩) (Nat.le_refl _) _).next hb2 (by simp; omega); replace hB1 : Bs (fun b => wr.heap.size < b) w2 B1 x1 := (hB1.bsame ((Same.refl _ _).setCell (p := ⟨wr.heap.size, 0, none⟩) (fun hq => Nat.lt_irrefl _ hq) _)).bbelow hb2; have hB2 : Bs (fun b => wr.heap.size < b) w2 B2 x2 := hs2.bless fun b _ h => (by simp only [From] at h; first | omega | (simp at h; omega)))
                  | (go_at_call 133; (with_reducible refine (piece_to (p := p2) e3 ?ha hc hb').mono ?_); (case ha => exact Ha.out.bbelow ((Hd.out.bel.trans (F2.mono (by omega))).setCell (by show w.heap.size ≤ wr.heap.size; omega) _)); rintro e w3 ⟨B3, d3, rfl, hs3, hb3⟩; have z3 := hb3.size; simp at z3; have hW3 : w3.heap[wr.heap.size]? = some (.cells #[.slice B1 x1.length d1, .slice B2 x2.length d2, .bool false, .slice none 0 0] 117 (0, 0)) := (hb3.block wr.heap.size (by simp; omega)).trans ((heap_setCell_same _ _ _ _ _ _ hW2).trans rfl); obtain ⟨sa0, sa1, sa2, sa3, sa4, sa5, sa6, sa7⟩ := box4 hW3; have F3 : Below wr.heap.size wr w3 := (F2.setCell (p := ⟨wr.heap.size, 1, none⟩) (Nat.le_refl _) _).next hb3 (by simp; omega); replace hB1 : Bs (fun b => wr.heap.size < b) w3 B1 x1 := (hB1.bsame ((Same.refl _ _).setCell (p := ⟨wr.heap.size, 1, none⟩) (fun hq => Nat.lt_irrefl _ hq) _)).bbelow hb3; replace hB2 : Bs (fun b => wr.heap.size < b) w3 B2 x2 := (hB2.bsame ((Same.refl _ _).setCell (p := ⟨wr.heap.size, 1, none⟩) (fun hq => Nat.lt_irrefl _ hq) _)).bbelow hb3; have hB3 : Bs (fun b => wr.heap.size < b) w3 B3 x3 := hs3.bless fun b _ h => (by simp only [From] at h; first | omega | (simp at h; omega)); have hG3 := (F3.block w.heap.size (by omega)).trans Hd.out.res; obtain ⟨gg0, gg1, gg2, gg3⟩ := box2 hG3; have hCC := (F3.block (w.heap.size + 1) (by omega)).trans Hd.out.com; obtain ⟨ca0, ca1, ca2, ca3⟩ := box2 hCC))
                refine bodyPost_ret (v := .tuple #[.agg #[.int .i64 0, .slice none 0 0], .int .i64 14]) (by simp [results, Tryd.results100, go_sem, gg0, gg1]) rfl ?_
                rw [Hv.out]
                exact ⟨none, 0, rfl, SL.nil, (((Hd.out.bel.trans (F3.mono (by omega))).setCell (by show w.heap.size ≤ wr.heap.size; omega) _).setCell (by show w.heap.size ≤ w.heap.size; omega) _).setCell (by show w.heap.size ≤ w.heap.size; omega) _⟩
          · obtain rfl : k = countS b := by omega
            have hk2' : ¬ ((countS b : Int) < (countS b : Int)) := by omega
            obtain ⟨l, el⟩ : ∃ l, l = (wrsS (dheadS b) (countS b)).1 := ⟨_, rfl⟩
            obtain ⟨rest, short, eS⟩ : ∃ r f, (wrsS (dheadS b) (countS b)).2 = (r, f) := ⟨_, _, rfl⟩
            have hll : l.length < 256 := by rw [el, wrs_len]; exact rdByte_lt _
            obtain rfl : short = false := by have h := Hd.out.long; rw [eS] at h; exact h
            obtain ⟨hrest, hp0⟩ := at_rest Hd.out.rdr Hd.out.long
            rw [eS] at hrest
            dsimp only at hrest
            have hown : Own 4 WrR (From (w.heap.size + 2)) wr (w.heap.size + 2) 117 v l := by rw [el]; exact Hd.out.own
            obtain ⟨A8, c8, rfl, _, hs8⟩ := hown.readc wrR_stays
            have Hs8 := Lib.hid hs8
            have hcom := Hd.out.com
            obtain ⟨ca0, ca1, _⟩ := box2 hcom
            have hcm : cmS b = ((turnS b : Int), l) := by unfold cmS; rw [el]
            have hres := Hd.out.res
            obtain ⟨ha0, ha1, ha2, ha3⟩ := box2 hres
            have Hbel := Lib.hid Hd.out.bel
            clear hs8 hown Hd el Hturn
            generalize ((turnS b : Nat) : Int) = T at *
            by_cases h1 : 0 < rest.length
            · have h1' : decide (p < (b.length : Int)) = true := by rw [← hrest]; exact decide_eq_true h1
              have Hv := Lib.hid (show decS b = ((0, []), 4) by unfold decS; rw [if_neg hb, eS]; dsimp only; rw [if_neg (by decide), if_pos h1])
              have hp1 : ¬ p < 0 := by omega
              clear h1 hrest
              go_wp2
              refine bodyPost_ret (v := .tuple #[.agg #[.int .i64 0, .slice none 0 0], .int .i64 4]) (by simp [results, Tryd.results100, go_sem, ha0, ha1]) rfl ?_
              rw [Hv.out]
              exact ⟨none, 0, rfl, SL.nil, ((Hbel.out.setCell (by show w.heap.size ≤ w.heap.size; omega) _).setCell (by show w.heap.size ≤ w.heap.size; omega) _)⟩
            · have h1' : decide (p < (b.length : Int)) = false := by rw [← hrest]; exact decide_eq_false h1
              by_cases h2 : commitFaultS (T, l) = 0
              · have H2 := Lib.hid h2
                have Hv := Lib.hid (show decS b = ((T, l), 0) by unfold decS; rw [if_neg hb, eS]; dsimp only; rw [if_neg (by decide), if_neg h1, hcm, if_neg (by rw [h2]; decide)])
                clear h1 h2 hrest
                go_wp2_with (go_at_call 92; (with_reducible refine (commitFault_ok _ A8 T l c8 ?ha ?hn).mono ?_); (case ha => exact Hs8.out.z wrR_stays); (case hn => omega); rintro e w7 ⟨rfl, hb7⟩; have z7 := hb7.size; have hG7 := (hb7.block w.heap.size (by omega)).trans hres; obtain ⟨gg0, gg1, gg2, gg3⟩ := box2 hG7; have hC7 := (hb7.block (w.heap.size + 1) (by omega)).trans hcom; obtain ⟨cc0, cc1, _⟩ := box2 hC7; rw [H2.out])
                refine bodyPost_ret (v := .tuple #[.agg #[.int .i64 T, .slice A8 l.length c8], .int .i64 0]) (by simp [results, Tryd.results100, go_sem, gg0, gg1]) rfl ?_
                rw [Hv.out]
                refine ⟨A8, c8, rfl, ?_, (((Hbel.out.trans (hb7.mono (by omega))).setCell (by show w.heap.size ≤ w.heap.size; omega) _).setCell (by show w.heap.size ≤ w.heap.size; omega) _)⟩
                exact ((Hs8.out.below wrR_stays hb7).same wrR_stays (((Same.refl _ _).setCell (fun h => by simp only [From] at h; omega) _).setCell (fun h => by simp only [From] at h; omega) _)).lo wrR_stays (by omega)
              · have h2' : (commitFaultS (T, l) != 0) = true := by simpa using h2
                have Hv := Lib.hid (show decS b = ((0, []), commitFaultS (T, l)) by unfold decS; rw [if_neg hb, eS]; dsimp only; rw [if_neg (by decide), if_neg h1, hcm, if_pos h2])
                clear h1 h2 hrest
                go_wp2_with (go_at_call 92; (with_reducible refine (commitFault_ok _ A8 T l c8 ?ha ?hn).mono ?_); (case ha => exact Hs8.out.z wrR_stays); (case hn => omega); rintro e w7 ⟨rfl, hb7⟩; have z7 := hb7.size; have hG7 := (hb7.block w.heap.size (by omega)).trans hres; obtain ⟨gg0, gg1, gg2, gg3⟩ := box2 hG7; have hC7 := (hb7.block (w.heap.size + 1) (by omega)).trans hcom; obtain ⟨cc0, cc1, _⟩ := box2 hC7)
                refine bodyPost_ret (v := .tuple #[.agg #[.int .i64 0, .slice none 0 0], .int .i64 (commitFaultS (T, l))]) (by simp [results, Tryd.results100, go_sem, gg0, gg1]) rfl ?_
                rw [Hv.out]
                exact ⟨none, 0, rfl, SL.nil, (((Hbel.out.trans (hb7.mono (by omega))).setCell (by show w.heap.size ≤ w.heap.size; omega) _).setCell (by show w.heap.size ≤ w.heap.size; omega) _)⟩
end Go.Proofs.YteacjkihjeiafaaDoor
namespace Go.Proofs.YteacjkihjeiafaaDoor
open Go.RowKit
set_option linter.unusedVariables false
set_option linter.unusedSimpArgs false

theorem decS_len (b : List UInt8) : (decS b).1.2.length ≤ 255 := by
  have h : (cmS b).2.length ≤ 255 := by
    have h1 : countS b < 256 := rdByte_lt _
    show (wrsS (dheadS b) (countS b)).1.length ≤ 255
    rw [wrs_len]
    omega
  unfold decS
  repeat' split
  all_goals first | exact Nat.zero_le _ | exact h
end Go.Proofs.YteacjkihjeiafaaDoor
