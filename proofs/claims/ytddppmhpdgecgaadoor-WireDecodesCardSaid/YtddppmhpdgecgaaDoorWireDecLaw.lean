/- The law WireDecodes: its walk. -/
import Derived.Test.YtddppmhpdgecgaaDoorWireDec
import Derived.Test.YtddppmhpdgecgaaDoorWireDecR
namespace Go.Proofs.YtddppmhpdgecgaaDoor
open Go.RowKit
set_option linter.unusedVariables false
set_option linter.unusedSimpArgs false

set_option maxRecDepth 100000 in
set_option maxHeartbeats 2000000 in
theorem rqOf_ok (w : World) (P : Option Addr) (b : List UInt8) (pc : Nat) (hb : Bs All w P b) (hpc : b.length ≤ pc) :
    Calls Tryd.prog 29 #[.slice P b.length pc] w (RetRqE w (decRq b)) := by
  by_cases h4 : 4000 < b.length
  · have Hv := Lib.hid (show decRq b = (rq0, 1) by unfold decRq; rw [if_pos h4])
    clear hb hpc
    go_enter Tryd.func29, Tryd.ntmps29
    go_wp2
    refine bodyPost_ret (v := .tuple #[.agg #[.int .i64 0, .slice none 0 0, .slice none 0 0, .slice none 0 0, .slice none 0 0], .int .i64 1]) (by simp [results, Tryd.results29, go_sem]) rfl ?_
    rw [Hv.out]
    exact ⟨none, 0, none, 0, none, 0, none, 0, rfl, SL.nil, SL.nil, SL.nil, SL.nil, by repeat' (first | exact Below.refl _ _ | assumption | refine Below.drew ?_ | refine below_drewN ?_ _ | refine Below.setCell ?_ (by first | (simp; done) | omega | (simp; omega)) _ | refine Below.alloc ?_ (by first | exact Nat.le_refl _ | omega | (simp; done) | (simp; omega)) _)⟩
  · by_cases h0 : b.length = 0
    · have Hv := Lib.hid (show decRq b = (rq0, 14) by unfold decRq; rw [if_neg h4, if_pos h0])
      have hn : b = [] := List.eq_nil_of_length_eq_zero h0
      have t0 : ((b.length : Int) == 0) = true := by rw [h0]; rfl
      clear hb hpc h0 h4
      go_enter Tryd.func29, Tryd.ntmps29
      go_wp2
      refine bodyPost_ret (v := .tuple #[.agg #[.int .i64 0, .slice none 0 0, .slice none 0 0, .slice none 0 0, .slice none 0 0], .int .i64 14]) (by simp [results, Tryd.results29, go_sem]) rfl ?_
      rw [Hv.out]
      exact ⟨none, 0, none, 0, none, 0, none, 0, rfl, SL.nil, SL.nil, SL.nil, SL.nil, by repeat' (first | exact Below.refl _ _ | assumption | refine Below.drew ?_ | refine below_drewN ?_ _ | refine Below.setCell ?_ (by first | (simp; done) | omega | (simp; omega)) _ | refine Below.alloc ?_ (by first | exact Nat.le_refl _ | omega | (simp; done) | (simp; omega)) _)⟩
    · obtain ⟨k, hk⟩ : ∃ k, k = (b.getD 0 0).toNat := ⟨_, rfl⟩
      by_cases hkr : 1 ≤ k ∧ k ≤ 8
      · have he : decRq b = decK k (hasS k) (b.drop 1, false) := by unfold decRq; rw [if_neg h4, if_neg h0, ← hk, if_neg (by simpa using hkr)]
        rw [he]
        rcases kinds_of (k := k) hkr.1 hkr.2 with ⟨h, h3, h5⟩ | ⟨h, h3, h5⟩ | ⟨h, rfl⟩ | ⟨h, rfl⟩
        · rw [h]; exact rqOf_0 w P b pc hb hpc (by omega) (by omega) k hkr.1 hkr.2 h h3 h5 hk.symm
        · rw [h]; exact rqOf_3 w P b pc hb hpc (by omega) (by omega) k hkr.1 hkr.2 h h3 h5 hk.symm
        · rw [h]; exact rqOf_7 w P b pc hb hpc (by omega) (by omega) hk.symm
        · rw [h]; exact rqOf_11 w P b pc hb hpc (by omega) (by omega) hk.symm
      · have Hv := Lib.hid (show decRq b = (rq0, 5) by unfold decRq; rw [if_neg h4, if_neg h0, ← hk, if_pos hkr])
        obtain ⟨g, off, rfl, hc0⟩ := bs_zero hb (by omega)
        rw [← hk] at hc0
        have hk256 : k < 256 := by rw [hk]; exact UInt8.toNat_lt _
        have hbn : b ≠ [] := fun h => h0 (by rw [h]; rfl)
        have t0 : ((b.length : Int) == 0) = false := by simp; exact hbn
        have i0 : (0 : Int) < (b.length : Int) := by omega
        have hgl := World.block_lt_of_cell? w _ hc0
        have hi : (decide ((1 : Int) ≤ (k : Int)) && decide ((k : Int) ≤ 8)) = false := by
          rw [Bool.and_eq_false_iff, decide_eq_false_iff_not, decide_eq_false_iff_not]; omega
        clear hb hk hkr
        go_enter Tryd.func29, Tryd.ntmps29
        go_wp2_with (go_at_call 79; refine (in_ok _ _ _ _).mono ?_; rintro e wi ⟨rfl, rfl⟩)
        refine bodyPost_ret (v := .tuple #[.agg #[.int .i64 0, .slice none 0 0, .slice none 0 0, .slice none 0 0, .slice none 0 0], .int .i64 5]) (by simp [results, Tryd.results29, go_sem]) rfl ?_
        rw [Hv.out]
        exact ⟨none, 0, none, 0, none, 0, none, 0, rfl, SL.nil, SL.nil, SL.nil, SL.nil, by repeat' (first | exact Below.refl _ _ | assumption | refine Below.drew ?_ | refine below_drewN ?_ _ | refine Below.setCell ?_ (by first | (simp; done) | omega | (simp; omega)) _ | refine Below.alloc ?_ (by first | exact Nat.le_refl _ | omega | (simp; done) | (simp; omega)) _)⟩
set_option maxRecDepth 100000 in
set_option maxHeartbeats 2000000 in
theorem wireDecodes_walk (w : World) (hT : HasAt w) {A : Option Addr} {l : List UInt8} {c : Nat} (h : (Bs All w A l ∧ l.length ≤ big) ∧ l.length ≤ c) :
    Calls Tryd.prog 5 #[.slice A l.length c] w (RetV w (.bool true)) := by
  have Ha := Lib.hid h.1.1
  have HT := Lib.hid hT
  have hb := h.1.2
  have hc := h.2
  clear h hT
  obtain ⟨⟨r, e⟩, he⟩ : ∃ r, r = decRq l := ⟨_, rfl⟩
  have Hdec := Lib.hid (show ∀ (W : World) (B : Option Addr) (d : Nat), HasAt W → Bs All W B l → l.length ≤ d → Calls Tryd.prog 27 #[.slice B l.length d] W (RetRqE W (r, e)) from fun W B d h0 h1 h2 => by rw [he]; exact wireDecode_ok W h0 B l d h1 h2)
  have Href := Lib.hid (show ∀ (W : World) (B : Option Addr) (d : Nat), Bs All W B l → l.length ≤ d → Calls Tryd.prog 29 #[.slice B l.length d] W (RetRqE W (r, e)) from fun W B d h1 h2 => by rw [he]; exact rqOf_ok W B l d h1 h2)
  clear he
  go_enter Tryd.func5, Tryd.ntmps5
  go_wp2_with (first
    | (go_at_call 28; refine (octets_cap _ A l c Ha.out hb).mono ?_; rintro e1 w1 ⟨A1, c1, rfl, hcap, hs1, hb1⟩)
    | (go_at_call 27; refine (Hdec.out _ A1 c1 (HT.out.below hb1) hs1.bz hcap).mono ?_; rintro e2 w2 ⟨A2, a2, B2, b2, C2, c2, D2, d2, rfl, ha2, hb2, hc2, hd2, hbl2⟩; have z1 := hb1.size; have z2 := hbl2.size; have F2 := hb1.next hbl2 hb1.size)
    | (go_at_call 29; (with_reducible refine (Href.out _ A c ?ha hc).mono ?_); (case ha => exact Ha.out.bbelow (F2.alloc (by omega) _)); rintro e3 w3 ⟨A3, a3, B3, b3, C3, c3, D3, d3, rfl, ha3, hb3, hc3, hd3, hbl3⟩; have z3 := hbl3.size; simp at z3; have z4 : w2.heap.size < w3.heap.size := (by omega); obtain ⟨⟨q0, q1, q2, q3, q4⟩, _⟩ := box5 ((hbl3.block w2.heap.size (by simp)).trans (box_new w2 _ _)); have F3 : Below w.heap.size w w3 := (F2.alloc (by omega) _).next hbl3 (by simp; omega))
    | (go_at_call 30; (with_reducible refine (sameRequest_ok _ A2 B2 C2 D2 A3 B3 C3 D3 r a2 b2 c2 d2 a3 b3 c3 d3 ?h1 ?h2 ?h3 ?h4 ?h5 ?h6 ?h7 ?h8).mono ?_); (case h1 => exact (((ha2.bz.bbelow ((Below.refl _ _).alloc (Nat.le_refl _) _)).bbelow hbl3).bbelow ((Below.refl _ _).alloc (Nat.le_refl _) _))); (case h2 => exact (((hb2.bz.bbelow ((Below.refl _ _).alloc (Nat.le_refl _) _)).bbelow hbl3).bbelow ((Below.refl _ _).alloc (Nat.le_refl _) _))); (case h3 => exact (((hc2.bz.bbelow ((Below.refl _ _).alloc (Nat.le_refl _) _)).bbelow hbl3).bbelow ((Below.refl _ _).alloc (Nat.le_refl _) _))); (case h4 => exact (((hd2.bz.bbelow ((Below.refl _ _).alloc (Nat.le_refl _) _)).bbelow hbl3).bbelow ((Below.refl _ _).alloc (Nat.le_refl _) _))); (case h5 => exact ha3.bz.bbelow ((Below.refl _ _).alloc (Nat.le_refl _) _)); (case h6 => exact hb3.bz.bbelow ((Below.refl _ _).alloc (Nat.le_refl _) _)); (case h7 => exact hc3.bz.bbelow ((Below.refl _ _).alloc (Nat.le_refl _) _)); (case h8 => exact hd3.bz.bbelow ((Below.refl _ _).alloc (Nat.le_refl _) _)); rintro e4 w4 ⟨rfl, hb4⟩))
  go_ret
  exact ⟨by simp, (F3.alloc (by omega) _).next hb4 (by simp; omega)⟩
end Go.Proofs.YtddppmhpdgecgaaDoor
