/- Walk: tape.Encode; the law TapeEncodes. -/
import Derived.Test.YthhcdibimnifaaaEncLaw
namespace Go.Proofs.Ythhcdibimnifaaa
open Go.RowKit
set_option linter.unusedVariables false
set_option linter.unusedSimpArgs false

theorem own_block {w : World} {base g : Nat} {l : List UInt8} (h : w.heap[g]? = some (.cells (l.map bv).toArray 5 (0, 0))) (hb : base ≤ g) (hm : l.length ≤ maxLen) :
    w.ownsRow base 5 1 (.slice (some ⟨g, 0, none⟩) l.length l.length) l.length (l.map bv) :=
  ⟨by simp, .inr ⟨g, l.length, _, rfl, hb, h, Nat.le_refl _, hm, by simp, by rw [Nat.mul_one]; exact List.take_of_length_le (by simp)⟩⟩
set_option maxRecDepth 100000 in
set_option maxHeartbeats 4000000 in
theorem encode_ok (w : World) (A : Option Addr) (t : Nat) (l : List Wr) (n : Nat) (ha : Ws All w A l) (hn : l.length * 80 ≤ 140737488355328) (h1 : commitFaultS ((t : Int), l) = 0) :
    Calls Try.prog 51 #[.agg #[.int .i64 (t : Int), .slice A l.length n]] w (RetBE w (encS ((t : Int), l))) := by
  have Ha := Lib.hid ha
  clear ha
  obtain ⟨i0, hi0, hz0, hz1', hz2'⟩ := info_parts info_u8
  have bc : (commitFaultS ((t : Int), l) != 0) = false := by simp [h1]
  have Hv := Lib.hid (show encS ((t : Int), l) = (encTo ((t : Int), l) l.length, 0) by unfold encS; rw [if_neg (by simpa using h1)])
  obtain ⟨⟨hf1, hf2⟩, hf3, hf4⟩ := cm_fine h1
  have Hlen := Lib.hid (encTo_len h1)
  have Hwl := Lib.hid (fun i hi => wrFine (hf4 i hi))
  dsimp only at hf1 hf2 hf3
  have Hbx := Lib.hid (box_new w #[.int .i64 (t : Int), .slice A l.length n] 59)
  have Hb0 := Lib.hid (show Below w.heap.size w (w.alloc (.cells #[.int .i64 (t : Int), .slice A l.length n] 59)) from (Below.refl _ _).alloc (Nat.le_refl _) _)
  have Hhd := Lib.hid (show (#[.int .u8 ((t : Int) / 65536), .int .u8 ((t : Int) / 256 % 256), .int .u8 ((t : Int) % 256), .int .u8 (l.length : Int)] : Array Value) = ((headS ((t : Int), l)).map bv).toArray by simp [headS, bv]; omega)
  clear h1 hf4
  go_enter Try.func51, Try.ntmps51
  go_wp2_with (go_at_call 48; refine (tapeCheck_ok _ A (t : Int) l n (Ha.out.below wrR_stays ?_) hn).mono ?_; (repeat' (first | exact Below.refl _ _ | assumption | refine Below.drew ?_ | refine below_drewN ?_ _ | refine Below.alloc ?_ (by first | exact Nat.le_refl _ | omega | (simp; done) | (simp; omega)) _)); rintro e w1 ⟨rfl, hb1⟩; have hbw1 := Hb0.out.next hb1 (by simp); have Hbx1 := Lib.hid ((hb1.block _ (by simp)).trans Hbx.out); have hz1 : w.heap.size < w1.heap.size := (by have := hb1.size; simp at this; omega); obtain ⟨g0, g1, _, _⟩ := box2 Hbx1.out)
  generalize hW : w1.alloc _ = w2
  have hx2 : w2.heap[w1.heap.size]? = some (.cells ((headS ((t : Int), l)).map bv).toArray 5 (0, 0)) := by rw [← hW, ← Hhd.out]; exact box_new w1 _ _
  have Hb12 := Lib.hid (show Below w1.heap.size w1 w2 by rw [← hW]; exact (Below.refl _ _).alloc (Nat.le_refl _) _)
  have hz2 : w2.heap.size = w1.heap.size + 1 := by rw [← hW]; simp
  clear hW
  have Hx2 := Lib.hid hx2
  have Hbw1 := Lib.hid hbw1
  clear hx2 Hhd g0 g1 hb1 hbw1
  go_loopw [5, 32] (fun v' i wr => ∃ (k : Nat) (v : Value), k ≤ l.length ∧ i = .int .i64 k ∧ v' = v ∧ wr.ownsRow w1.heap.size 5 1 v (encTo ((t : Int), l) k).length ((encTo ((t : Int), l) k).map bv) ∧ Below w1.heap.size w2 wr) (fun _ i _ => l.length - (intOf i).toNat)
  case atStart => exact ⟨0, _, by omega, rfl, rfl, by rw [encTo_zero]; exact own_block Hx2.out (Nat.le_refl _) (by simp [headS, maxLen]), Below.refl _ _⟩
  case round =>
    obtain ⟨k, v, hk, rfl, rfl, hown, hbel⟩ := hrel
    have hap : u5.ownBlock ≠ some wr.heap.size := fun hv => by have := (hown.lt _ hv).2; omega
    have Hbel := Lib.hid hbel
    have hbz := hbel.size
    have Hb2 := Lib.hid (Hb12.out.trans hbel)
    have Hbw := Lib.hid (Hbw1.out.next Hb2.out (by omega))
    have Hown := Lib.hid hown
    clear hbel hown
    by_cases hlt : k < l.length
    · have Hnx := Lib.hid (encTo_next (c := ((t : Int), l)) hlt)
      have hel := Hlen.out k (by omega)
      obtain ⟨g, off, A1, a1, B1, b1, C1, c1, rfl, _, hal, hc1, hc2, hc3, hc4, hs1, hs2, hs3, _, _, _⟩ := wrs_at (((Ha.out.below wrR_stays Hbw1.out).low wrR_stays (Nat.le_refl _)).same wrR_stays (Same.of_low Hb2.out)) hlt
      obtain ⟨y1, y2, y3⟩ := Hwl.out k hlt
      dsimp only at Hnx
      have Hs1 := Lib.hid hs1
      have Hs2 := Lib.hid hs2
      have Hs3 := Lib.hid hs3
      clear hs1 hs2 hs3
      generalize l[k] = x at *
      generalize encTo ((t : Int), l) k = E at *
      obtain ⟨xn, xk, xf, xv⟩ := x
      dsimp only at *
      cases xf with
      | true =>
          obtain ⟨E1, hE1⟩ : ∃ E1, E ++ lpS xn = E1 := ⟨_, rfl⟩
          obtain ⟨E2, hE2⟩ : ∃ E2, E1 ++ lpS xk = E2 := ⟨_, rfl⟩
          obtain ⟨E3, hE3⟩ : ∃ E3, E2 ++ [255] = E3 := ⟨_, rfl⟩
          have hl1 : E1.length ≤ 800 := by rw [← hE1, List.length_append, lp_len]; omega
          have hl2 : E2.length ≤ 900 := by rw [← hE2, List.length_append, lp_len]; omega
          have HE1 := Lib.hid hE1
          have HE2 := Lib.hid hE2
          have HE3 := Lib.hid hE3
          clear hE1 hE2 hE3
          go_wp2_with fail
          go_region_held3 (fun w' => w'.cell? ⟨wr.heap.size, 0, none⟩ = some (.slice A1 xn.length a1) ∧ w'.cell? ⟨wr.heap.size, 1, none⟩ = some (.slice B1 xk.length b1) ∧ w'.cell? ⟨wr.heap.size, 2, none⟩ = some (.bool true) ∧ w'.cell? ⟨wr.heap.size, 3, none⟩ = some (.slice C1 xv.length c1))
            (first
              | go_keep
              | exact ⟨q0, q1, q2, q3⟩
              | exact ⟨r0, r1, r2, r3⟩)
            (first
              | (go_at_call 115; (with_reducible refine (part_ok _ w1.heap.size u5 E ?ho A1 xn a1 ?hp ?hb ?hn).mono ?_); (case ho => exact (Hown.out.alloc _)); (case hp => exact (Hs1.out.bsame (Same.of_low (((Below.refl w1.heap.size wr).alloc (by omega) _).drew)))); (case hb => (simp; omega)); (case hn => (unfold big; omega)); rintro e w3 ⟨v3, rfl, hown3, hb3, hs3, hn3⟩; have Hown3 := Lib.hid (show w3.ownsRow w1.heap.size 5 1 v3 E1.length (E1.map bv) by rw [← HE1.out]; exact hown3); have hx3 := (hs3.block wr.heap.size ⟨by simp, hap⟩ (by simp)).trans (box_new wr _ _); obtain ⟨q0, q1, q2, q3, _⟩ := box4 hx3; have hz3 := hb3.size; have Hx3 := Lib.hid hx3; have hz3' : wr.heap.size < w3.heap.size := (by simp at hz3; omega); have Hap3 := Lib.hid (hn3 wr.heap.size (by simp) hap); clear hown3 hx3 hs3 hn3)
              | (go_at_call 115; (with_reducible refine (part_ok _ w1.heap.size v3 E1 Hown3.out B1 xk b1 ?hp ?hb ?hn).mono ?_); (case hp => exact ((Hs2.out.bsame (Same.of_low (((Below.refl w1.heap.size wr).alloc (by omega) _).drew))).bsame (Same.of_low hb3))); (case hb => omega); (case hn => (unfold big; omega)); rintro e w4 ⟨v4, rfl, hown4, hb4, hs4, _⟩; have Hown4 := Lib.hid (show w4.ownsRow w1.heap.size 5 1 v4 E2.length (E2.map bv) by rw [← HE2.out]; exact hown4); have hx4 := (hs4.block wr.heap.size ⟨hz3', Hap3.out⟩ hz3').trans Hx3.out; obtain ⟨r0, r1, r2, r3, _⟩ := box4 hx4; have hz4 := hb4.size; clear hown4 hx4 hs4))
          go_wp2_with (at_builtin; refine wpl_app _ rfl _ _ _ rfl w1.heap.size 5 i0 (.int .u8 0) 1 1 Try.underlying23 hi0 hz0 hz1' hz2' rfl (by decide) v4 E2.length (E2.map bv) rfl (Hown4.out.alloc _) (some ⟨w4.heap.size, 0, none⟩) 1 1 [bv 255] rfl rfl (one_src _ _ _) (by simp [bv, Value.oneCell']) (by unfold maxLen; omega) (by omega) (by simp; omega) ?_; intro v5 w5 hown5 hg5 hat5; have Hown5 := Lib.hid (show w5.ownsRow w1.heap.size 5 1 v5 E3.length (E3.map bv) by rw [← HE3.out, List.length_append, List.map_append]; exact hown5); have hb5 : Below w1.heap.size w4 w5 := ((Below.refl _ _).alloc (by omega) _).trans (own_below (Hown4.out.alloc _) hg5 (by simp; omega)))
          go_roundw
          case rel => exact ⟨k + 1, v5, by omega, by go_num, rfl, by rw [Hnx.out, show (E ++ wrBytes ⟨xn, xk, true, xv⟩) = E3 by rw [← HE3.out, ← HE2.out, ← HE1.out]; simp [wrBytes]]; exact Hown5.out, (((Hbel.out.alloc (by omega) _).drew.trans hb3).trans hb4).trans hb5⟩
          case measure => simp [intOf]; omega
      | false =>
          obtain ⟨E1, hE1⟩ : ∃ E1, E ++ lpS xn = E1 := ⟨_, rfl⟩
          obtain ⟨E2, hE2⟩ : ∃ E2, E1 ++ lpS xk = E2 := ⟨_, rfl⟩
          obtain ⟨E3, hE3⟩ : ∃ E3, E2 ++ lpS xv = E3 := ⟨_, rfl⟩
          have hl1 : E1.length ≤ 800 := by rw [← hE1, List.length_append, lp_len]; omega
          have hl2 : E2.length ≤ 900 := by rw [← hE2, List.length_append, lp_len]; omega
          have HE1 := Lib.hid hE1
          have HE2 := Lib.hid hE2
          have HE3 := Lib.hid hE3
          clear hE1 hE2 hE3
          go_wp2_with fail
          go_region_held3 (fun w' => w'.cell? ⟨wr.heap.size, 0, none⟩ = some (.slice A1 xn.length a1) ∧ w'.cell? ⟨wr.heap.size, 1, none⟩ = some (.slice B1 xk.length b1) ∧ w'.cell? ⟨wr.heap.size, 2, none⟩ = some (.bool false) ∧ w'.cell? ⟨wr.heap.size, 3, none⟩ = some (.slice C1 xv.length c1))
            (first
              | go_keep
              | exact ⟨q0, q1, q2, q3⟩
              | exact ⟨r0, r1, r2, r3⟩)
            (first
              | (go_at_call 115; (with_reducible refine (part_ok _ w1.heap.size u5 E ?ho A1 xn a1 ?hp ?hb ?hn).mono ?_); (case ho => exact (Hown.out.alloc _)); (case hp => exact (Hs1.out.bsame (Same.of_low (((Below.refl w1.heap.size wr).alloc (by omega) _).drew)))); (case hb => (simp; omega)); (case hn => (unfold big; omega)); rintro e w3 ⟨v3, rfl, hown3, hb3, hs3, hn3⟩; have Hown3 := Lib.hid (show w3.ownsRow w1.heap.size 5 1 v3 E1.length (E1.map bv) by rw [← HE1.out]; exact hown3); have hx3 := (hs3.block wr.heap.size ⟨by simp, hap⟩ (by simp)).trans (box_new wr _ _); obtain ⟨q0, q1, q2, q3, _⟩ := box4 hx3; have hz3 := hb3.size; have Hx3 := Lib.hid hx3; have hz3' : wr.heap.size < w3.heap.size := (by simp at hz3; omega); have Hap3 := Lib.hid (hn3 wr.heap.size (by simp) hap); clear hown3 hx3 hs3 hn3)
              | (go_at_call 115; (with_reducible refine (part_ok _ w1.heap.size v3 E1 Hown3.out B1 xk b1 ?hp ?hb ?hn).mono ?_); (case hp => exact ((Hs2.out.bsame (Same.of_low (((Below.refl w1.heap.size wr).alloc (by omega) _).drew))).bsame (Same.of_low hb3))); (case hb => omega); (case hn => (unfold big; omega)); rintro e w4 ⟨v4, rfl, hown4, hb4, hs4, _⟩; have Hown4 := Lib.hid (show w4.ownsRow w1.heap.size 5 1 v4 E2.length (E2.map bv) by rw [← HE2.out]; exact hown4); have hx4 := (hs4.block wr.heap.size ⟨hz3', Hap3.out⟩ hz3').trans Hx3.out; obtain ⟨r0, r1, r2, r3, _⟩ := box4 hx4; have hz4 := hb4.size; clear hown4 hx4 hs4))
          go_wp2_with (go_at_call 115; refine (part_ok _ w1.heap.size v4 E2 Hown4.out C1 xv c1 ((Hs3.out.bsame (Same.of_low (((Below.refl w1.heap.size wr).alloc (by omega) _).drew))).bsame (Same.of_low hb3) |>.bsame (Same.of_low hb4)) (by omega) (by unfold big; omega)).mono ?_; rintro e w5 ⟨v5, rfl, hown5, hb5, _, _⟩; have Hown5 := Lib.hid (show w5.ownsRow w1.heap.size 5 1 v5 E3.length (E3.map bv) by rw [← HE3.out]; exact hown5))
          go_roundw
          case rel => exact ⟨k + 1, v5, by omega, by go_num, rfl, by rw [Hnx.out, show (E ++ wrBytes ⟨xn, xk, false, xv⟩) = E3 by rw [← HE3.out, ← HE2.out, ← HE1.out]; simp [wrBytes]]; exact Hown5.out, (((Hbel.out.alloc (by omega) _).drew.trans hb3).trans hb4).trans hb5⟩
          case measure => simp [intOf]; omega
    · obtain rfl : k = l.length := by omega
      have Hbs := Lib.hid (Hown.out)
      rcases Hown.out.2 with ⟨rfl, h0⟩ | ⟨g, cap, cur, rfl, _, _, _⟩
      · have Hh0 := Lib.hid h0
        clear h0
        go_wp2
        go_ret2
        rw [Hv.out]
        exact ⟨none, 0, by dsimp only; rw [Hh0.out]; rfl, (SL.bof_own Hbs.out).2.blo (by omega), Hbw.out⟩
      · go_wp2
        go_ret2
        rw [Hv.out]
        exact ⟨_, cap, rfl, (SL.bof_own Hbs.out).2.blo (by omega), Hbw.out⟩
set_option maxRecDepth 100000 in
set_option maxHeartbeats 1000000 in
theorem encode_any (w : World) (A : Option Addr) (t : Int) (l : List Wr) (n : Nat) (ha : Ws All w A l) (hn : l.length * 80 ≤ 140737488355328) :
    Calls Try.prog 51 #[.agg #[.int .i64 t, .slice A l.length n]] w (RetBE w (encS (t, l))) := by
  have Ha := Lib.hid ha
  clear ha
  by_cases h1 : commitFaultS (t, l) = 0
  · have h2 := (cm_fine h1).1
    dsimp only at h2
    obtain ⟨m, rfl⟩ := Int.eq_ofNat_of_zero_le (show 0 ≤ t by omega)
    exact encode_ok w A m l n Ha.out hn h1
  · have b1 : (commitFaultS (t, l) != 0) = true := by simpa using h1
    have Hv := Lib.hid (show encS (t, l) = ([], commitFaultS (t, l)) by unfold encS; rw [if_pos h1])
    clear h1
    go_enter Try.func51, Try.ntmps51
    go_wp2_with (go_at_call 48; refine (tapeCheck_ok _ A t l n (Ha.out.below wrR_stays ?_) hn).mono ?_; (repeat' (first | exact Below.refl _ _ | assumption | refine Below.drew ?_ | refine below_drewN ?_ _ | refine Below.alloc ?_ (by first | exact Nat.le_refl _ | omega | (simp; done) | (simp; omega)) _)); rintro e w1 ⟨rfl, hb1⟩)
    go_ret2
    rw [Hv.out]
    exact ⟨none, 0, rfl, SL.nil, Below.next ((Below.refl _ _).alloc (Nat.le_refl _) _) hb1 (by simp)⟩
end Go.Proofs.Ythhcdibimnifaaa
