/- The walks of PathBits and PathParts. -/
import Derived.Test.YtdhbnhjgbcipkaaBits
import Derived.OpenShut
namespace Go.Proofs.Ytdhbnhjgbcipkaa
open Go.RowKit

def bitS (a : List UInt8) (i : Int) : Bool × Int := if keyFault a = 0 then (if 0 ≤ i ∧ i ≤ 144 then (bitB a i.toNat, 0) else (false, 2)) else (false, keyFault a)
theorem key16 {a : List UInt8} (h : keyFault a = 0) : a.length ≤ 16 := by unfold keyFault at h; split at h <;> omega
theorem bit_at {S : Nat → Prop} {w : World} {A : Option Addr} {a : List UInt8} (h : SL 1 BoolR S w A (all145 a)) (h16 : a.length ≤ 16) {n : Nat} (hn : n < 145) :
    ∃ b off, A = some ⟨b, off, none⟩ ∧ b < w.heap.size ∧ w.cell? ⟨b, off + n, none⟩ = some (.bool (bitB a n)) := by
  have hl : n < (all145 a).length := by rw [all145_len h16]; exact hn
  obtain ⟨b, off, e, h1, h2⟩ := bools_at h hl
  refine ⟨b, off, e, h1, ?_⟩
  rw [h2]
  unfold bitB
  rw [List.getD_eq_getElem?_getD, List.getElem?_eq_getElem hl]
  rfl
set_option maxRecDepth 100000 in
set_option maxHeartbeats 1000000 in
theorem pathBit_ok (w : World) (A : Option Addr) (a : List UInt8) (c : Nat) (i : Int) (ha : Bs All w A a) :
    Calls Try.prog 26 #[.slice A a.length c, .int .i64 i] w (RetV w (.tuple #[.bool (bitS a i).1, .int .i64 (bitS a i).2])) := by
  have Ha := Lib.hid ha
  clear ha
  by_cases hk : keyFault a = 0
  · have H16 := Lib.hid (key16 hk)
    have Hk := Lib.hid hk
    rcases (by omega : i < 0 ∨ (0 ≤ i ∧ 145 ≤ i) ∨ (0 ≤ i ∧ i ≤ 144)) with h | ⟨h, h'⟩ | ⟨h, h'⟩
    · have e : bitS a i = (false, 2) := by unfold bitS; rw [if_pos hk, if_neg (by omega)]
      rw [e]
      clear e hk
      go_enter Try.func26, Try.ntmps26
      go_wp2_with (go_at_call 15; refine (pathCheck_ok _ A a c).mono ?_; rintro e w1 ⟨rfl, rfl⟩; rw [Hk.out])
      go_ret2
      exact ⟨rfl, Below.refl _ _⟩
    · have e : bitS a i = (false, 2) := by unfold bitS; rw [if_pos hk, if_neg (by omega)]
      rw [e]
      clear e hk
      go_enter Try.func26, Try.ntmps26
      go_wp2_with (go_at_call 15; refine (pathCheck_ok _ A a c).mono ?_; rintro e w1 ⟨rfl, rfl⟩; rw [Hk.out])
      go_ret2
      exact ⟨rfl, Below.refl _ _⟩
    · obtain ⟨n, rfl⟩ : ∃ n : Nat, i = n := ⟨i.toNat, by omega⟩
      have e : bitS a n = (bitB a n, 0) := by unfold bitS; rw [if_pos hk, if_pos ⟨h, h'⟩]; simp
      rw [e]
      have hn : n < 145 := by omega
      clear e hk
      go_enter Try.func26, Try.ntmps26
      go_wp2_with (first
        | (go_at_call 15; refine (pathCheck_ok _ A a c).mono ?_; rintro e w1 ⟨rfl, rfl⟩; rw [Hk.out])
        | (go_at_call 40; refine (pbit_ok _ A a c n Ha.out hn H16.out).mono ?_; rintro e w2 ⟨rfl, rfl⟩))
      go_ret2
      exact ⟨rfl, Below.refl _ _⟩
  · have e : bitS a i = (false, keyFault a) := by unfold bitS; rw [if_neg hk]
    rw [e]
    have b1 : (keyFault a != 0) = true := by simpa using hk
    clear e hk
    go_enter Try.func26, Try.ntmps26
    go_wp2_with (go_at_call 15; refine (pathCheck_ok _ A a c).mono ?_; rintro e w1 ⟨rfl, rfl⟩)
    go_ret2
    exact ⟨rfl, Below.refl _ _⟩
set_option maxRecDepth 100000 in
set_option maxHeartbeats 1000000 in
theorem bitOf_ok (w : World) (A : Option Addr) (a : List UInt8) (c : Nat) (i : Int) (ha : Bs All w A a) :
    Calls Try.prog 27 #[.slice A a.length c, .int .i64 i] w (RetV w (.tuple #[.bool (bitS a i).1, .int .i64 (bitS a i).2])) := by
  have Ha := Lib.hid ha
  clear ha
  by_cases hk : keyFault a = 0
  · have H16 := Lib.hid (key16 hk)
    have Hk := Lib.hid hk
    rcases (by omega : (¬ (0 ≤ i ∧ i ≤ 144)) ∨ (0 ≤ i ∧ i ≤ 144)) with h | ⟨h, h'⟩
    · have e : bitS a i = (false, 2) := by unfold bitS; rw [if_pos hk, if_neg (by omega)]
      rw [e]
      have b2 : (decide (0 ≤ i) && decide (i ≤ 144)) = false := by rw [← Bool.decide_and]; exact decide_eq_false h
      have B2 := Lib.hid b2
      clear e hk h b2
      go_enter Try.func27, Try.ntmps27
      go_wp2_with (first
        | (go_at_call 17; refine (keyFault_ok _ A a c).mono ?_; rintro e w1 ⟨rfl, rfl⟩; rw [Hk.out])
        | (go_at_call 35; refine (in_ok _ _ _ _).mono ?_; rintro e w2 ⟨rfl, rfl⟩; rw [B2.out]))
      go_ret2
      exact ⟨rfl, Below.refl _ _⟩
    · obtain ⟨n, rfl⟩ : ∃ n : Nat, i = n := ⟨i.toNat, by omega⟩
      have e : bitS a n = (bitB a n, 0) := by unfold bitS; rw [if_pos hk, if_pos ⟨h, h'⟩]; simp
      rw [e]
      have hl := all145_len H16.out
      have b2 : (decide ((0 : Int) ≤ n) && decide ((n : Int) ≤ 144)) = true := by rw [← Bool.decide_and]; exact decide_eq_true ⟨h, h'⟩
      have B2 := Lib.hid b2
      have Hl := Lib.hid hl
      have h145 : (n : Int) < 145 := by omega
      clear e hk b2 hl
      go_enter Try.func27, Try.ntmps27
      go_wp2_with (first
        | (go_at_call 17; refine (keyFault_ok _ A a c).mono ?_; rintro e w1 ⟨rfl, rfl⟩; rw [Hk.out])
        | (go_at_call 35; refine (in_ok _ _ _ _).mono ?_; rintro e w2 ⟨rfl, rfl⟩; rw [B2.out])
        | (go_at_call 41; refine (allBits_ok _ A a c Ha.out H16.out).mono ?_; rintro e w3 ⟨B, d, rfl, hs, hbel⟩; obtain ⟨b, off, rfl, hlt, hcell⟩ := bit_at hs H16.out (n := n) (by omega); rw [Hl.out]))
      go_ret2
      exact ⟨rfl, hbel⟩
  · have e : bitS a i = (false, keyFault a) := by unfold bitS; rw [if_neg hk]
    rw [e]
    have b1 : (keyFault a != 0) = true := by simpa using hk
    clear e hk
    go_enter Try.func27, Try.ntmps27
    go_wp2_with (go_at_call 17; refine (keyFault_ok _ A a c).mono ?_; rintro e w1 ⟨rfl, rfl⟩)
    go_ret2
    exact ⟨rfl, Below.refl _ _⟩
set_option maxRecDepth 100000 in
set_option maxHeartbeats 1000000 in
theorem pathBits_walk (w : World) {A : Option Addr} {l : List UInt8} {c : Nat} {i : Int} (h : Bs All w A l ∧ l.length ≤ big) (_ : (Lit.int .i64 i).wf = true) :
    Calls Try.prog 9 #[.slice A l.length c, .int .i64 i] w (RetV w (.bool true)) := by
  have H := Lib.hid h
  clear h
  go_enter Try.func9, Try.ntmps9
  go_wp2_with (first
    | (go_at_call 16; refine (octets_ok _ A l c H.out.1 H.out.2).mono ?_; rintro e w1 ⟨A1, c1, rfl, hs1, hb1⟩)
    | (go_at_call 26; refine (pathBit_ok _ A1 l c1 i hs1.bz).mono ?_; rintro e w2 ⟨rfl, hb2⟩)
    | (go_at_call 27; refine (bitOf_ok _ A l c i (H.out.1.bbelow (hb1.next hb2 hb1.size))).mono ?_; rintro e w3 ⟨rfl, hb3⟩))
  go_ret
  exact ⟨by simp, (hb1.next hb2 hb1.size).next hb3 (by have := hb1.size; have := hb2.size; omega)⟩
end Go.Proofs.Ytdhbnhjgbcipkaa
