/- Walks: a key taken out of pairs. -/
import Derived.Test.YthhcdibimnifaaaRange
namespace Go.Proofs.Ythhcdibimnifaaa
open Go.RowKit
set_option linter.unusedVariables false
set_option linter.unusedSimpArgs false

def notKey (k : List UInt8) (p : Pr) : Bool := !(p.1 == k)
def delS (l : List Pr) (k : List UInt8) : List Pr × Int := if pkFault l k ≠ 0 then ([], pkFault l k) else (l.filter (notKey k), 0)
set_option maxRecDepth 100000 in
set_option maxHeartbeats 1000000 in
theorem deletedOf_ok (w : World) (A : Option Addr) (l : List Pr) (c : Nat) (K : Option Addr) (k : List UInt8) (c1 : Nat) (ha : Ps All w A l) (hk : Bs All w K k) :
    Calls Try.prog 32 #[.slice A l.length c, .slice K k.length c1] w (RetPE w (delS l k)) := by
  obtain ⟨i0, hi0, hz0, hz1, hz2⟩ := info_parts info_pair
  have Ha := Lib.hid ha
  have Hk := Lib.hid hk
  clear ha hk
  by_cases h1 : pkFault l k = 0
  · have hpf := pk_fine h1
    have b1 : (pkFault l k != 0) = false := by simp [h1]
    have Hv := Lib.hid (show delS l k = (l.filter (notKey k), 0) by simp [delS, h1])
    obtain ⟨hl60, hlf, _⟩ := pairs_fine hpf.1
    have Hl := Lib.hid hl60
    clear h1 hpf hlf
    go_enter Try.func32, Try.ntmps32
    go_wp2_with (go_at_call 88; refine (pairsAndKey_ok _ A l c K k c1 Ha.out).mono ?_; rintro e w1 ⟨rfl, hb1⟩)
    clear b1
    have Hb1 := Lib.hid hb1
    clear hb1
    go_loopw [7, 8] (fun v i wr => ∃ j : Nat, j ≤ l.length ∧ i = .int .i64 j ∧ Own 2 PairR (From w.heap.size) wr w.heap.size 39 v ((l.take j).filter (notKey k)) ∧ Below w.heap.size w wr) (fun _ i _ => l.length - (intOf i).toNat)
    case atStart => exact ⟨0, by omega, rfl, Own.nil _ _ _, Hb1.out⟩
    case round =>
      obtain ⟨j, hj, rfl, hown, hbel⟩ := hrel
      have Hbel := Lib.hid hbel
      have Hown := Lib.hid hown
      clear hown hbel
      by_cases hlt : j < l.length
      · obtain ⟨ab, ao, K0, c3, V0, d3, rfl, _, hal, hc1, hc2, hs1, hs2, hb1, hb2⟩ := pairs_at (Ha.out.below pairR_stays Hbel.out) hlt
        have Hkr := Lib.hid (Hk.out.bbelow Hbel.out)
        have Hsn := Lib.hid (filter_snoc (q := notKey k) hlt)
        have hlen : ((l.take j).filter (notKey k)).length ≤ 60 := by have h1 := List.length_filter_le (notKey k) (l.take j); have h2 := Hl.out; rw [List.length_take] at h1; omega
        have Hlen := Lib.hid hlen
        clear hlen
        generalize l[j] = x at *
        rcases Bool.eq_false_or_eq_true (x.1 == k) with h1 | h1
        · have Hq := Lib.hid (show notKey k x = false by simp [notKey, h1])
          go_wp2_with (go_at_call 89; (with_reducible refine (refSameBytes_ok _ K0 K x.1 k c3 c1 hs1.bz Hkr.out).mono ?_); rintro e w2 ⟨rfl, rfl⟩)
          go_roundw
          case rel => exact ⟨j + 1, by omega, by go_num, by rw [Hsn.out, Hq.out]; simpa using Hown.out, Hbel.out⟩
          case measure => simp [intOf]; omega
        · have Hq := Lib.hid (show notKey k x = true by simp [notKey, h1])
          go_wp2_with (first
            | (go_at_call 89; (with_reducible refine (refSameBytes_ok _ K0 K x.1 k c3 c1 hs1.bz Hkr.out).mono ?_); rintro e w2 ⟨rfl, rfl⟩)
            | (go_at_call 94; refine (pairCopy_ok _ K0 V0 x c3 d3 hs1.bz hs2.bz hb1 hb2).mono ?_; rintro e w4 ⟨A1, c4, A2, d2, rfl, gs1, gs2, hbw1⟩)
            | (at_builtin; refine wpl_snoc pairR_stays (S := From w.heap.size) _ rfl _ _ _ rfl w.heap.size 39 i0 _ 2 48 Try.underlying22 hi0 hz0 hz1 hz2 rfl (by decide) _ ((l.take j).filter (notKey k)) rfl ?hown _ _ [.slice A1 x.1.length c4, .slice A2 x.2.length d2] rfl rfl (new_src _ _ [.slice A1 x.1.length c4, .slice A2 x.2.length d2] _ (by simp)) (by simp [Value.oneCell']) ?hm ?hby ?hba x ?hd ?_; (case hown => exact (Hown.out.below pairR_stays hbw1).same pairR_stays (((Same.refl _ _).alloc _).alloc _)); (case hm => have := Hlen.out; simp only [maxLen]; omega); (case hby => have := Hlen.out; omega); (case hba => have hz1 := Hbel.out.size; have hz2 := hbw1.size; simp; omega); (case hd => exact ⟨A1, c4, A2, d2, rfl, (gs1.bsame (((Same.refl _ _).alloc _).alloc _)).bless fun b _ hs => ⟨Nat.le_trans Hbel.out.size hs, Hown.out.apart _ (Nat.le_refl _) b hs⟩, (gs2.bsame (((Same.refl _ _).alloc _).alloc _)).bless fun b _ hs => ⟨Nat.le_trans Hbel.out.size hs, Hown.out.apart _ (Nat.le_refl _) b hs⟩, hb1, hb2⟩); intro v1 w5 hown2 hbw2))
          go_roundw
          case rel => exact ⟨j + 1, by omega, by go_num, by rw [Hsn.out, Hq.out]; exact hown2, (((Hbel.out.next hbw1 Hbel.out.size).alloc (by have hz1 := Hbel.out.size; have hz2 := hbw1.size; omega) _).alloc (by have hz1 := Hbel.out.size; have hz2 := hbw1.size; simp; omega) _).trans hbw2⟩
          case measure => simp [intOf]; omega
      · obtain rfl : j = l.length := by omega
        go_wp2
        go_ret2
        have h := Hown.out
        rw [List.take_length] at h
        obtain ⟨A', c', rfl, hcc, hsl⟩ := h.readc pairR_stays
        rw [Hv.out]
        exact ⟨A', c', rfl, hcc, hsl, Hbel.out⟩
  · have b1 : (pkFault l k != 0) = true := by simpa using h1
    have Hv := Lib.hid (show delS l k = ([], pkFault l k) by simp [delS, h1])
    clear h1
    go_enter Try.func32, Try.ntmps32
    go_wp2_with (go_at_call 88; refine (pairsAndKey_ok _ A l c K k c1 Ha.out).mono ?_; rintro e w1 ⟨rfl, hb1⟩)
    go_ret2
    rw [Hv.out]
    exact ⟨none, 0, rfl, Nat.le_refl _, SL.nil, hb1⟩
end Go.Proofs.Ythhcdibimnifaaa
