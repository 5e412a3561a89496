/- Walk: wire.Decode. -/
import Derived.Test.YtddppmhpdgecgaaDoorWireDec0
import Derived.Test.YtddppmhpdgecgaaDoorWireDec3
import Derived.Test.YtddppmhpdgecgaaDoorWireDec7
import Derived.Test.YtddppmhpdgecgaaDoorWireDec11
namespace Go.Proofs.YtddppmhpdgecgaaDoor
open Go.RowKit
set_option linter.unusedVariables false
set_option linter.unusedSimpArgs false

set_option maxRecDepth 100000 in
set_option maxHeartbeats 2000000 in
theorem wireDecode_ok (w : World) (hT : HasAt w) (P : Option Addr) (b : List UInt8) (pc : Nat) (hb : Bs All w P b) (hpc : b.length ≤ pc) :
    Calls Tryd.prog 27 #[.slice P b.length pc] w (RetRqE w (decRq b)) := by
  by_cases h4 : 4000 < b.length
  · have Hv := Lib.hid (show decRq b = (rq0, 1) by unfold decRq; rw [if_pos h4])
    clear hT hb hpc
    go_enter Tryd.func27, Tryd.ntmps27
    go_wp2
    refine bodyPost_ret (v := .tuple #[.agg #[.int .i64 0, .slice none 0 0, .slice none 0 0, .slice none 0 0, .slice none 0 0], .int .i64 1]) (by simp [results, Tryd.results27, go_sem]) rfl ?_
    rw [Hv.out]
    exact ⟨none, 0, none, 0, none, 0, none, 0, rfl, SL.nil, SL.nil, SL.nil, SL.nil, by repeat' (first | exact Below.refl _ _ | assumption | refine Below.drew ?_ | refine below_drewN ?_ _ | refine Below.setCell ?_ (by first | (simp; done) | omega | (simp; omega)) _ | refine Below.alloc ?_ (by first | exact Nat.le_refl _ | omega | (simp; done) | (simp; omega)) _)⟩
  · by_cases h0 : b.length = 0
    · have Hv := Lib.hid (show decRq b = (rq0, 14) by unfold decRq; rw [if_neg h4, if_pos h0])
      have hn : b = [] := List.eq_nil_of_length_eq_zero h0
      have t0 : ((b.length : Int) == 0) = true := by rw [h0]; rfl
      clear hT hb hpc h0 h4
      go_enter Tryd.func27, Tryd.ntmps27
      go_wp2
      refine bodyPost_ret (v := .tuple #[.agg #[.int .i64 0, .slice none 0 0, .slice none 0 0, .slice none 0 0, .slice none 0 0], .int .i64 14]) (by simp [results, Tryd.results27, go_sem]) rfl ?_
      rw [Hv.out]
      exact ⟨none, 0, none, 0, none, 0, none, 0, rfl, SL.nil, SL.nil, SL.nil, SL.nil, by repeat' (first | exact Below.refl _ _ | assumption | refine Below.drew ?_ | refine below_drewN ?_ _ | refine Below.setCell ?_ (by first | (simp; done) | omega | (simp; omega)) _ | refine Below.alloc ?_ (by first | exact Nat.le_refl _ | omega | (simp; done) | (simp; omega)) _)⟩
    · obtain ⟨k, hk⟩ : ∃ k, k = (b.getD 0 0).toNat := ⟨_, rfl⟩
      by_cases hkr : 1 ≤ k ∧ k ≤ 8
      · have he : decRq b = decK k (hasS k) (b.drop 1, false) := by unfold decRq; rw [if_neg h4, if_neg h0, ← hk, if_neg (by simpa using hkr)]
        rw [he]
        rcases has_cases (k := k) hkr.1 hkr.2 with h | h | h | h
        · rw [h]; exact wireDec_0 w hT P b pc k hb hpc (by omega) (by omega) hk.symm hkr.1 hkr.2 h
        · rw [h]; exact wireDec_3 w hT P b pc k hb hpc (by omega) (by omega) hk.symm hkr.1 hkr.2 h
        · rw [h]; exact wireDec_7 w hT P b pc k hb hpc (by omega) (by omega) hk.symm hkr.1 hkr.2 h
        · rw [h]; exact wireDec_11 w hT P b pc k hb hpc (by omega) (by omega) hk.symm hkr.1 hkr.2 h
      · have Hv := Lib.hid (show decRq b = (rq0, 5) by unfold decRq; rw [if_neg h4, if_neg h0, ← hk, if_pos hkr])
        obtain ⟨g, off, rfl, hc0⟩ := bs_zero hb (by omega)
        rw [← hk] at hc0
        have hk256 : k < 256 := by rw [hk]; exact UInt8.toNat_lt _
        have hbn : b ≠ [] := fun h => h0 (by rw [h]; rfl)
        have t0 : ((b.length : Int) == 0) = false := by simp; exact hbn
        have i0 : (0 : Int) < (b.length : Int) := by omega
        have hgl := World.block_lt_of_cell? w _ hc0
        clear hT hb hk
        rcases (by omega : k < 1 ∨ (1 ≤ k ∧ 8 < k)) with h | ⟨h, h'⟩
        · have k1 : (k : Int) < 1 := by omega
          clear hkr
          go_enter Tryd.func27, Tryd.ntmps27
          go_wp2
          refine bodyPost_ret (v := .tuple #[.agg #[.int .i64 0, .slice none 0 0, .slice none 0 0, .slice none 0 0, .slice none 0 0], .int .i64 5]) (by simp [results, Tryd.results27, go_sem]) rfl ?_
          rw [Hv.out]
          exact ⟨none, 0, none, 0, none, 0, none, 0, rfl, SL.nil, SL.nil, SL.nil, SL.nil, by repeat' (first | exact Below.refl _ _ | assumption | refine Below.drew ?_ | refine below_drewN ?_ _ | refine Below.setCell ?_ (by first | (simp; done) | omega | (simp; omega)) _ | refine Below.alloc ?_ (by first | exact Nat.le_refl _ | omega | (simp; done) | (simp; omega)) _)⟩
        · have k1 : ¬ (k : Int) < 1 := by omega
          have k2 : (8 : Int) < (k : Int) := by omega
          clear hkr
          go_enter Tryd.func27, Tryd.ntmps27
          go_wp2
          refine bodyPost_ret (v := .tuple #[.agg #[.int .i64 0, .slice none 0 0, .slice none 0 0, .slice none 0 0, .slice none 0 0], .int .i64 5]) (by simp [results, Tryd.results27, go_sem]) rfl ?_
          rw [Hv.out]
          exact ⟨none, 0, none, 0, none, 0, none, 0, rfl, SL.nil, SL.nil, SL.nil, SL.nil, by repeat' (first | exact Below.refl _ _ | assumption | refine Below.drew ?_ | refine below_drewN ?_ _ | refine Below.setCell ?_ (by first | (simp; done) | omega | (simp; omega)) _ | refine Below.alloc ?_ (by first | exact Nat.le_refl _ | omega | (simp; done) | (simp; omega)) _)⟩
end Go.Proofs.YtddppmhpdgecgaaDoor
