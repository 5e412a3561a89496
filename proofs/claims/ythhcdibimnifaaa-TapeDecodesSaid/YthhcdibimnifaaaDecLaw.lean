/- The law TapeDecodes: its walk. -/
import Derived.Test.YthhcdibimnifaaaDecRef
namespace Go.Proofs.Ythhcdibimnifaaa
open Go.RowKit
set_option linter.unusedVariables false
set_option linter.unusedSimpArgs false

theorem decS_len (b : List UInt8) : (decS b).1.2.length ≤ 255 := by
  have h : (cmS b).2.length ≤ 255 := by
    have h1 : countS b < 256 := rdByte_lt _
    show (wrsS (headS b) (countS b)).1.length ≤ 255
    rw [wrs_len]
    omega
  unfold decS
  repeat' split
  all_goals first | exact Nat.zero_le _ | exact h
set_option maxRecDepth 100000 in
set_option maxHeartbeats 1000000 in
theorem tapeDecodes_walk (w : World) {A : Option Addr} {l : List UInt8} {c : Nat} (h : (Bs All w A l ∧ l.length ≤ big) ∧ l.length ≤ c) :
    Calls Try.prog 13 #[.slice A l.length c] w (RetV w (.bool true)) := by
  have Ha := Lib.hid h.1.1
  have hb := h.1.2
  have hc := h.2
  have Hlen := Lib.hid (decS_len l)
  clear h
  obtain ⟨⟨⟨t, ws⟩, e⟩, he⟩ : ∃ r, r = decS l := ⟨_, rfl⟩
  rw [← he] at Hlen
  have Hdec := Lib.hid (show ∀ (W : World) (B : Option Addr) (d : Nat), Bs All W B l → l.length ≤ d → Calls Try.prog 55 #[.slice B l.length d] W (RetCmE W ((t, ws), e)) from fun W B d h1 h2 => by rw [he]; exact decode_ok W B l d h1 h2)
  have Href := Lib.hid (show ∀ (W : World) (B : Option Addr) (d : Nat), Bs All W B l → l.length ≤ d → Calls Try.prog 56 #[.slice B l.length d] W (RetCmE W ((t, ws), e)) from fun W B d h1 h2 => by rw [he]; exact commitOf_ok W B l d h1 h2)
  clear he
  go_enter Try.func13, Try.ntmps13
  go_wp2_with (first
    | (go_at_call 25; refine (octets_cap _ A l c Ha.out hb).mono ?_; rintro e w1 ⟨A1, c1, rfl, hcap, hs1, hb1⟩)
    | (go_at_call 55; refine (Hdec.out _ A1 c1 hs1.bz hcap).mono ?_; rintro e w2 ⟨A2, n2, rfl, hs2, hb2⟩; have z1 := hb1.size; have z2 := hb2.size; have F2 := hb1.next hb2 hb1.size)
    | (go_at_call 56; (with_reducible refine (Href.out _ A c ?ha hc).mono ?_); (case ha => exact Ha.out.bbelow (F2.alloc (by omega) _)); rintro e w3 ⟨A3, n3, rfl, hs3, hb3⟩; have z3 := hb3.size; simp at z3; have z4 : w2.heap.size < w3.heap.size := (by omega); obtain ⟨q0, q1, _⟩ := box2 ((hb3.block w2.heap.size (by simp)).trans (box_new w2 _ _)); have F3 : Below w.heap.size w w3 := (F2.alloc (by omega) _).next hb3 (by simp; omega))
    | (go_at_call 54; (with_reducible refine (sameCommit_ok _ A2 A3 t ws n2 n3 ?ha ?hb ?hn).mono ?_); (case ha => exact (((hs2.z wrR_stays).below wrR_stays ((Below.refl _ _).alloc (Nat.le_refl _) _)).below wrR_stays hb3).below wrR_stays ((Below.refl _ _).alloc (Nat.le_refl _) _)); (case hb => exact (hs3.z wrR_stays).below wrR_stays ((Below.refl _ _).alloc (Nat.le_refl _) _)); (case hn => (have := Hlen.out; unfold big; exact Nat.le_trans this (by decide))); rintro e w4 ⟨rfl, hb4⟩))
  go_ret
  exact ⟨by simp, (F3.alloc (by omega) _).next hb4 (by simp; omega)⟩
end Go.Proofs.Ythhcdibimnifaaa
