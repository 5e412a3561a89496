/- Walk of path.Bit. -/
import Derived.Test.YtjgdeeabejoegaaDoorBits
namespace Go.Proofs.YtjgdeeabejoegaaDoor
open Go.RowKit
set_option linter.unusedVariables false
set_option linter.unusedSimpArgs false

def bitS (a : List UInt8) (i : Int) : Bool × Int := if keyFault a = 0 then (if 0 ≤ i ∧ i ≤ 144 then (bitB a i.toNat, 0) else (false, 2)) else (false, keyFault a)
theorem key16 {a : List UInt8} (h : keyFault a = 0) : a.length ≤ 16 := by unfold keyFault at h; split at h <;> omega
theorem bit_at {S : Nat → Prop} {w : World} {A : Option Addr} {a : List UInt8} (h : SL 1 BoolR S w A (all145 a)) (h16 : a.length ≤ 16) {n : Nat} (hn : n < 145) :
    ∃ b off, A = some ⟨b, off, none⟩ ∧ b < w.heap.size ∧ w.cell? ⟨b, off + n, none⟩ = some (.bool (bitB a n)) := by
  have hl : n < (all145 a).length := by rw [all145_len h16]; exact hn
  obtain ⟨b, off, e, h1, h2⟩ := bools_at h hl
  refine ⟨b, off, e, h1, ?_⟩
  rw [h2]
  unfold bitB
  rw [List.getD_eq_getElem?_getD, List.getElem?_eq_getElem hl]
  rfl
set_option maxRecDepth 100000 in
set_option maxHeartbeats 1000000 in
theorem pathBit_ok (w : World) (A : Option Addr) (a : List UInt8) (c : Nat) (i : Int) (ha : Bs All w A a) :
    Calls Tryd.prog 68 #[.slice A a.length c, .int .i64 i] w (RetV w (.tuple #[.bool (bitS a i).1, .int .i64 (bitS a i).2])) := by
  have Ha := Lib.hid ha
  clear ha
  by_cases hk : keyFault a = 0
  · have H16 := Lib.hid (key16 hk)
    have Hk := Lib.hid hk
    rcases (by omega : i < 0 ∨ (0 ≤ i ∧ 145 ≤ i) ∨ (0 ≤ i ∧ i ≤ 144)) with h | ⟨h, h'⟩ | ⟨h, h'⟩
    · have e : bitS a i = (false, 2) := by unfold bitS; rw [if_pos hk, if_neg (by omega)]
      rw [e]
      clear e hk
      go_enter Tryd.func68, Tryd.ntmps68
      go_wp2_with (go_at_call 75; refine (pathCheck_ok _ A a c).mono ?_; rintro e w1 ⟨rfl, rfl⟩; rw [Hk.out])
      go_ret2
      exact ⟨rfl, Below.refl _ _⟩
    · have e : bitS a i = (false, 2) := by unfold bitS; rw [if_pos hk, if_neg (by omega)]
      rw [e]
      clear e hk
      go_enter Tryd.func68, Tryd.ntmps68
      go_wp2_with (go_at_call 75; refine (pathCheck_ok _ A a c).mono ?_; rintro e w1 ⟨rfl, rfl⟩; rw [Hk.out])
      go_ret2
      exact ⟨rfl, Below.refl _ _⟩
    · obtain ⟨n, rfl⟩ : ∃ n : Nat, i = n := ⟨i.toNat, by omega⟩
      have e : bitS a n = (bitB a n, 0) := by unfold bitS; rw [if_pos hk, if_pos ⟨h, h'⟩]; simp
      rw [e]
      have hn : n < 145 := by omega
      clear e hk
      go_enter Tryd.func68, Tryd.ntmps68
      go_wp2_with (first
        | (go_at_call 75; refine (pathCheck_ok _ A a c).mono ?_; rintro e w1 ⟨rfl, rfl⟩; rw [Hk.out])
        | (go_at_call 114; refine (pbit_ok _ A a c n Ha.out hn H16.out).mono ?_; rintro e w2 ⟨rfl, rfl⟩))
      go_ret2
      exact ⟨rfl, Below.refl _ _⟩
  · have e : bitS a i = (false, keyFault a) := by unfold bitS; rw [if_neg hk]
    rw [e]
    have b1 : (keyFault a != 0) = true := by simpa using hk
    clear e hk
    go_enter Tryd.func68, Tryd.ntmps68
    go_wp2_with (go_at_call 75; refine (pathCheck_ok _ A a c).mono ?_; rintro e w1 ⟨rfl, rfl⟩)
    go_ret2
    exact ⟨rfl, Below.refl _ _⟩
end Go.Proofs.YtjgdeeabejoegaaDoor
