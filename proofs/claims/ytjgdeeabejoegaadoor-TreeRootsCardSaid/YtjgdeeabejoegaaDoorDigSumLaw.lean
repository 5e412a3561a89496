/- Walks: digest.Sum, DigestOf; the law DigestSums. -/
import Derived.Test.YtjgdeeabejoegaaDoorSum
import Derived.Test.YtjgdeeabejoegaaDoorDigD
namespace Go.Proofs.YtjgdeeabejoegaaDoor
open Go.RowKit
set_option linter.unusedVariables false
set_option linter.unusedSimpArgs false

/-- What digest.Sum and DigestOf answer. -/
def sumS (b : List UInt8) : List UInt8 × Int := if 4000 < b.length then ([], 1) else (digS b, 0)
/-- The call returns bytes and a number. -/
def RetBsE (w : World) (r : List UInt8 × Int) (e : Ending) (w' : World) : Prop :=
  ∃ B d, e = .returned (.tuple #[.slice B r.1.length d, .int .i64 r.2]) ∧ Bs (From w.heap.size) w' B r.1 ∧ Below w.heap.size w w'
set_option maxRecDepth 100000 in
set_option maxHeartbeats 1000000 in
theorem digSum_ok (w : World) (hT : TabsAt w) (A : Option Addr) (b : List UInt8) (c : Nat) (ha : Bs All w A b) :
    Calls Tryd.prog 19 #[.slice A b.length c] w (RetBsE w (sumS b)) := by
  have HT := Lib.hid hT
  have Ha := Lib.hid ha
  clear hT ha
  by_cases hlt : 4000 < b.length
  · have Hv := Lib.hid (show sumS b = ([], 1) by unfold sumS; rw [if_pos hlt])
    have h1 : (4000 : Int) < (b.length : Int) := by omega
    go_enter Tryd.func19, Tryd.ntmps19
    go_wp2
    go_ret2
    rw [Hv.out]
    exact ⟨none, 0, rfl, SL.nil, Below.refl _ _⟩
  · have Hv := Lib.hid (show sumS b = (digS b, 0) by unfold sumS; rw [if_neg hlt])
    have h1 : ¬ (4000 : Int) < (b.length : Int) := by omega
    have hs := sum_ok w A b c Ha.out (by omega) HT.out
    go_enter Tryd.func19, Tryd.ntmps19
    go_wp2_with ((go_at_call 44; (with_reducible refine hs.mono ?_); rintro e w1 ⟨B, d, rfl, hb, hb1⟩))
    go_ret2
    rw [Hv.out]
    exact ⟨B, d, rfl, hb, hb1⟩
set_option maxRecDepth 100000 in
set_option maxHeartbeats 1000000 in
theorem digestOf_ok (w : World) (A : Option Addr) (b : List UInt8) (c : Nat) (ha : Bs All w A b) :
    Calls Tryd.prog 20 #[.slice A b.length c] w (RetBsE w (sumS b)) := by
  have Ha := Lib.hid ha
  clear ha
  by_cases hlt : 4000 < b.length
  · have Hv := Lib.hid (show sumS b = ([], 1) by unfold sumS; rw [if_pos hlt])
    have h1 : (4000 : Int) < (b.length : Int) := by omega
    go_enter Tryd.func20, Tryd.ntmps20
    go_wp2
    go_ret2
    rw [Hv.out]
    exact ⟨none, 0, rfl, SL.nil, Below.refl _ _⟩
  · have Hv := Lib.hid (show sumS b = (digS b, 0) by unfold sumS; rw [if_neg hlt])
    have h1 : ¬ (4000 : Int) < (b.length : Int) := by omega
    have hs := digested_ok w A b c Ha.out (by omega)
    go_enter Tryd.func20, Tryd.ntmps20
    go_wp2_with ((go_at_call 45; (with_reducible refine hs.mono ?_); rintro e w1 ⟨B, d, rfl, hb, hb1⟩))
    go_ret2
    rw [Hv.out]
    exact ⟨B, d, rfl, hb, hb1⟩
set_option maxRecDepth 100000 in
set_option maxHeartbeats 2000000 in
theorem digestSums_walk (w : World) (hT : TabsAt w) {A : Option Addr} {b : List UInt8} {c : Nat} (h : Bs All w A b ∧ b.length ≤ big) :
    Calls Tryd.prog 5 #[.slice A b.length c] w (RetV w (.bool true)) := by
  have HT := Lib.hid hT
  have Ha := Lib.hid h.1
  have hn := h.2
  clear hT h
  generalize hr : sumS b = r
  have Hr := Lib.hid hr
  clear hr
  go_enter Tryd.func5, Tryd.ntmps5
  go_wp2_with (first
    | (go_at_call 18; (with_reducible refine (octets_ok _ A b c ?ha hn).mono ?_); (case ha => exact Ha.out); rintro e1 w1 ⟨A1, c1, rfl, hs1, hb1⟩)
    | (go_at_call 19; (with_reducible refine (digSum_ok _ ?ht A1 b c1 ?ha).mono ?_); (case ht => exact HT.out.below hb1); (case ha => exact hs1.bz); rw [Hr.out]; rintro e2 w2 ⟨A2, c2, rfl, hs2, hb2⟩)
    | (go_at_call 20; (with_reducible refine (digestOf_ok _ A b c ?ha).mono ?_); (case ha => exact ((Ha.out.bbelow hb1).bbelow hb2)); rw [Hr.out]; rintro e3 w3 ⟨A3, c3, rfl, hs3, hb3⟩)
    | (go_at_call 21; (with_reducible refine (sameBytes_ok _ A2 A3 r.1 r.1 c2 c3 ?ha ?hb).mono ?_); (case ha => exact (hs2.bbelow hb3).bz); (case hb => exact hs3.bz); rintro e4 w4 ⟨rfl, rfl⟩)
    | (go_at_call 21; (with_reducible refine (sameBytes_ok _ A1 A b b c1 c ?ha ?hb).mono ?_); (case ha => exact ((hs1.bbelow hb2).bbelow hb3).bz); (case hb => exact (((Ha.out.bbelow hb1).bbelow hb2).bbelow hb3)); rintro e5 w5 ⟨rfl, rfl⟩))
  go_ret
  exact ⟨by simp, (hb1.next hb2 hb1.size).next hb3 (Nat.le_trans hb1.size hb2.size)⟩
end Go.Proofs.YtjgdeeabejoegaaDoor
