/- Walk: the references' piece. -/
import Derived.Test.YtddppmhpdgecgaaDoorPieceS
namespace Go.Proofs.YtddppmhpdgecgaaDoor
open Go.RowKit
set_option linter.unusedVariables false
set_option linter.unusedSimpArgs false

theorem bs_sub {S : Nat → Prop} {w : World} {A : Option Addr} {l : List UInt8} (h : Bs S w A l) (i n : Nat) : Bs S w (Option.map (fun x => x.add i) A) ((l.drop i).take n) := by
  intro hl
  have hln : i < l.length := by rw [List.length_take, List.length_drop] at hl; omega
  obtain ⟨b, off, e, h0, hlt, hi⟩ := h (by omega)
  subst e
  refine ⟨b, off + i, by rw [Option.map_some, add_at], h0, hlt, fun j hj => ?_⟩
  have hj' : i + j < l.length := by rw [List.length_take, List.length_drop] at hj; omega
  obtain ⟨cs, h1, h2, h3⟩ := hi (i + j) hj'
  refine ⟨cs, h1, fun n hn => ?_, ?_⟩
  · rw [← h2 n hn]
    congr 2
    omega
  · rw [List.getElem_take, List.getElem_drop]
    exact h3
theorem joinedNil_at (w : World) (A : Option Addr) (n : Nat) (a : List UInt8) (hl : n = a.length) (c : Nat) (ha : Bs All w A a) (hn : a.length ≤ big) :
    Calls Tryd.prog 84 #[.slice A n c, .slice none 0 0] w (RetSLc 1 ByteR w a) := by
  subst hl
  exact joinedNil_cap w A a c ha hn
/-- The call returns a piece and where it ends. -/
def RetPiece (w : World) (r : List UInt8 × Int) (e : Ending) (w' : World) : Prop :=
  ∃ B d, e = .returned (.tuple #[.slice B r.1.length d, .int .i64 r.2]) ∧ Bs (From w.heap.size) w' B r.1 ∧ Below w.heap.size w w'
set_option maxRecDepth 100000 in
set_option maxHeartbeats 1000000 in
theorem piece_ok (w : World) (A : Option Addr) (b : List UInt8) (c : Nat) (p : Int) (ha : Bs All w A b) (hc : b.length ≤ c) (hb : b.length ≤ 4000) :
    Calls Tryd.prog 86 #[.slice A b.length c, .int .i64 p] w (RetPiece w (pieceAt b p)) := by
  have Ha := Lib.hid ha
  clear ha
  by_cases h0 : p < 0
  · have e : pieceAt b p = ([], -1) := by unfold pieceAt; rw [if_neg (by omega)]
    rw [e]
    clear e
    go_enter Tryd.func86, Tryd.ntmps86
    go_wp2
    go_ret2
    exact ⟨none, 0, rfl, SL.nil, by repeat' (first | exact Below.refl _ _ | assumption | refine Below.drew ?_ | refine below_drewN ?_ _ | refine Below.alloc ?_ (by first | exact Nat.le_refl _ | omega | (simp; done) | (simp; omega)) _)⟩
  · obtain ⟨m, rfl⟩ : ∃ m : Nat, p = m := ⟨p.toNat, by omega⟩
    by_cases h1 : b.length ≤ m
    · have e : pieceAt b m = ([], -1) := by unfold pieceAt; rw [if_neg (by omega)]
      rw [e]
      clear e
      have h2 : decide ((b.length : Int) ≤ (m : Int)) = true := decide_eq_true (by omega)
      go_enter Tryd.func86, Tryd.ntmps86
      go_wp2
      go_ret2
      exact ⟨none, 0, rfl, SL.nil, by repeat' (first | exact Below.refl _ _ | assumption | refine Below.drew ?_ | refine below_drewN ?_ _ | refine Below.alloc ?_ (by first | exact Nat.le_refl _ | omega | (simp; done) | (simp; omega)) _)⟩
    · have h2 : decide ((b.length : Int) ≤ (m : Int)) = false := decide_eq_false (by omega)
      obtain ⟨g, off, rfl, hS, hlt, hcell⟩ := Ha.out.bat (k := m) (by omega)
      obtain ⟨x, hx⟩ : ∃ x, x = b[m]'(by omega) := ⟨_, rfl⟩
      have hxl := x.toNat_lt
      have hget : b.getD m 0 = x := by rw [hx, List.getD_eq_getElem?_getD, List.getElem?_eq_getElem (by omega)]; rfl
      rw [← hx] at hcell
      have w1 : IntKind.i64.wrap ((m : Int) + 1) = (m : Int) + 1 := IntWalk.i64_in _ (by omega)
      have w2 : IntKind.i64.wrap ((m : Int) + 1 + (x.toNat : Int)) = (m : Int) + 1 + (x.toNat : Int) := IntWalk.i64_in _ (by omega)
      have hi0 : (0 : Int) ≤ (m : Int) := by omega
      have hi1 : (m : Int) < (b.length : Int) := by omega
      by_cases h3 : b.length < m + 1 + x.toNat
      · have e : pieceAt b m = ([], -1) := by unfold pieceAt; rw [if_neg (by rw [Int.toNat_natCast, hget]; omega)]
        rw [e]
        clear e hx hget
        have h4 : decide ((b.length : Int) < (m : Int) + 1 + (x.toNat : Int)) = true := decide_eq_true (by omega)
        go_enter Tryd.func86, Tryd.ntmps86
        go_wp2
        go_ret2
        exact ⟨none, 0, rfl, SL.nil, by repeat' (first | exact Below.refl _ _ | assumption | refine Below.drew ?_ | refine below_drewN ?_ _ | refine Below.alloc ?_ (by first | exact Nat.le_refl _ | omega | (simp; done) | (simp; omega)) _)⟩
      · have He := Lib.hid (show pieceAt b m = ((b.drop (m + 1)).take x.toNat, (m : Int) + 1 + x.toNat) by
          unfold pieceAt
          rw [Int.toNat_natCast, hget, if_pos (by omega)])
        clear hx hget
        have h4 : decide ((b.length : Int) < (m : Int) + 1 + (x.toNat : Int)) = false := decide_eq_false (by omega)
        have s0 : (0 : Int) ≤ (m : Int) + 1 := by omega
        have s1 : (m : Int) + 1 ≤ (m : Int) + 1 + (x.toNat : Int) := by omega
        have s2 : (m : Int) + 1 + (x.toNat : Int) ≤ (c : Int) := by omega
        go_enter Tryd.func86, Tryd.ntmps86
        go_wp2_with fail
        all_goals
          refine (joinedNil_at _ _ _ ((b.drop (m + 1)).take x.toNat) ?hn _ ?hs ?hb).mono ?_
          case hn => rw [List.length_take, List.length_drop]; omega
          case hb => rw [List.length_take, List.length_drop]; unfold big; omega
          case hs => first | exact bs_sub Ha.out (m + 1) _ | (rw [List.drop_eq_nil_of_le (by omega), List.take_nil]; exact SL.nil)
          rintro e w5 ⟨A5, c5, rfl, _, hs5, hb5⟩
          go_wp2
          go_ret2
          rw [He.out]
          exact ⟨A5, c5, by rw [List.length_take, List.length_drop]; rfl, hs5, hb5⟩
end Go.Proofs.YtddppmhpdgecgaaDoor
