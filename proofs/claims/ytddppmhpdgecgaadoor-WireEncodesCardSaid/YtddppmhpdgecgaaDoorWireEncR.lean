/- Walk: RequestBytes. -/
import Derived.Test.YtddppmhpdgecgaaDoorWireEnc
namespace Go.Proofs.YtddppmhpdgecgaaDoor
open Go.RowKit
set_option linter.unusedVariables false
set_option linter.unusedSimpArgs false

theorem joined_at (w : World) (A B : Option Addr) (na nb : Nat) (x y : List UInt8) (hna : na = x.length) (hnb : nb = y.length) (c d : Nat) (ha : Bs All w A x) (hb : Bs All w B y) (hn : x.length + y.length ≤ big) :
    Calls Tryd.prog 84 #[.slice A na c, .slice B nb d] w (RetBs w (x ++ y)) := by
  subst hna hnb
  exact joined_ok w A B x y c d ha hb hn
set_option maxRecDepth 100000 in
set_option maxHeartbeats 4000000 in
theorem rqBytes_0 (w : World) (A B C D : Option Addr) (n e l v : List UInt8) (a b c d : Nat) (k : Nat) (hk1 : 1 ≤ k) (hk8 : k ≤ 8) (hh : hasS k = 0) (hk3 : k ≠ 3) (hk4 : k ≠ 4) (hA : Bs All w A n) (hB : Bs All w B e) (hC : Bs All w C l) (hD : Bs All w D v) (hbn : n.length ≤ big) (hbe : e.length ≤ big) (hrq : rqFault ⟨k, n, e, l, v⟩ = 0) (hf : bodyFault 0 ⟨k, n, e, l, v⟩ = 0) :
    Calls Tryd.prog 25 #[.agg #[.int .i64 k, .slice A n.length a, .slice B e.length b, .slice C l.length c, .slice D v.length d]] w (RetBI w (encUp 0 ⟨k, n, e, l, v⟩ 4, 0)) := by
  obtain ⟨sm1, sm2, sm3⟩ := body_small hf
  have Hrq := Lib.hid hrq
  have Hrf := Lib.hid (fun W : World => rqFault_ok W A B C D ⟨k, n, e, l, v⟩ a b c d hbn hbe)
  have hv32 : v.length ≤ 32 := sm3
  have HA := Lib.hid hA
  have HB := Lib.hid hB
  have HC := Lib.hid hC
  have HD := Lib.hid hD
  have Hnm := Lib.hid (show ∀ W : World, Calls Tryd.prog 80 #[.int .i64 k] W (fun e w' => e = .returned (.bool false) ∧ w' = W) from fun W => by have h := named_ok W k hk1 hk8; rw [named_of hh] at h; exact h)
  have h3 : ((k : Int) == 3) = false := by simp; omega
  have h4 : ((k : Int) == 4) = false := by simp; omega
  clear hh
  have Hbox := Lib.hid (show ∀ W, Below (w.heap.size + 1) (w.alloc (.cells #[.int .i64 k, .slice A n.length a, .slice B e.length b, .slice C l.length c, .slice D v.length d] 24)) W → (W.cell? ⟨w.heap.size, 0, none⟩ = some (.int .i64 k) ∧ W.cell? ⟨w.heap.size, 1, none⟩ = some (.slice A n.length a) ∧ W.cell? ⟨w.heap.size, 2, none⟩ = some (.slice B e.length b) ∧ W.cell? ⟨w.heap.size, 3, none⟩ = some (.slice C l.length c) ∧ W.cell? ⟨w.heap.size, 4, none⟩ = some (.slice D v.length d)) ∧ Below w.heap.size w W ∧ w.heap.size < W.heap.size from fun W hW => by
    obtain ⟨q, _⟩ := box5 ((hW.block w.heap.size (by omega)).trans (box_new w _ _))
    exact ⟨q, ((Below.refl w.heap.size w).alloc (Nat.le_refl _) _).trans (hW.mono (by omega)), by have h := hW.size; simp at h; omega⟩)
  have hkb : (UInt8.ofNat k).toNat = k := by rw [UInt8.toNat_ofNat']; omega
  have Hkb := Lib.hid (show ∀ W : World, Bs All (W.alloc (.cells #[.int .u8 (k : Int)] 5)) (some ⟨W.heap.size, 0, none⟩) [UInt8.ofNat k] from fun W => bs_block (t := 5) (by rw [box_new]; simp [bv, hkb]) trivial)
  have hkb2 := hkb
  clear hA hB hC hD hrq hf sm1 sm2 sm3 hkb
  go_enter Tryd.func25, Tryd.ntmps25
  go_wp2_with (first
    | (go_at_call 23; refine (Hrf.out _).mono ?_; rintro e1 w1 ⟨rfl, hb1'⟩; rw [Hrq.out]; have hb1 := hb1'.mono (show w.heap.size + 1 ≤ _ by simp); obtain ⟨⟨qa1, qb1, qc1, qd1, qe1⟩, hw1, hz1⟩ := Hbox.out w1 hb1; clear hb1')
    | (go_at_call 80; refine (Hnm.out _).mono ?_; rintro e1 wn ⟨rfl, rfl⟩))
  have he : encUp 0 ⟨k, n, e, l, v⟩ 4 = [UInt8.ofNat k] := by simp [encUp, partAt, Int.toNat_natCast]
  go_ret2
  rw [he]
  exact ⟨some ⟨w1.heap.size, 0, none⟩, 1, rfl, bs_block (t := 5) (by rw [box_new]; simp [bv, hkb2]) (Nat.le_of_lt hz1), (hw1.alloc (by omega) _)⟩
set_option maxRecDepth 100000 in
set_option maxHeartbeats 4000000 in
theorem rqBytes_3 (w : World) (A B C D : Option Addr) (n e l v : List UInt8) (a b c d : Nat) (k : Nat) (hk1 : 1 ≤ k) (hk8 : k ≤ 8) (hh : hasS k = 3) (hk3 : k ≠ 3) (hk4 : k ≠ 4) (hA : Bs All w A n) (hB : Bs All w B e) (hC : Bs All w C l) (hD : Bs All w D v) (hbn : n.length ≤ big) (hbe : e.length ≤ big) (hrq : rqFault ⟨k, n, e, l, v⟩ = 0) (hf : bodyFault 3 ⟨k, n, e, l, v⟩ = 0) :
    Calls Tryd.prog 25 #[.agg #[.int .i64 k, .slice A n.length a, .slice B e.length b, .slice C l.length c, .slice D v.length d]] w (RetBI w (encUp 3 ⟨k, n, e, l, v⟩ 4, 0)) := by
  obtain ⟨sm1, sm2, sm3⟩ := body_small hf
  have Hrq := Lib.hid hrq
  have Hrf := Lib.hid (fun W : World => rqFault_ok W A B C D ⟨k, n, e, l, v⟩ a b c d hbn hbe)
  obtain ⟨hn8, he16⟩ : n.length ≤ 8 ∧ e.length ≤ 16 := sm1 (by decide)
  have hv32 : v.length ≤ 32 := sm3
  have HA := Lib.hid hA
  have HB := Lib.hid hB
  have HC := Lib.hid hC
  have HD := Lib.hid hD
  have Hnm := Lib.hid (show ∀ W : World, Calls Tryd.prog 80 #[.int .i64 k] W (fun e w' => e = .returned (.bool true) ∧ w' = W) from fun W => by have h := named_ok W k hk1 hk8; rw [named_of hh] at h; exact h)
  have h3 : ((k : Int) == 3) = false := by simp; omega
  have h4 : ((k : Int) == 4) = false := by simp; omega
  clear hh
  have Hbox := Lib.hid (show ∀ W, Below (w.heap.size + 1) (w.alloc (.cells #[.int .i64 k, .slice A n.length a, .slice B e.length b, .slice C l.length c, .slice D v.length d] 24)) W → (W.cell? ⟨w.heap.size, 0, none⟩ = some (.int .i64 k) ∧ W.cell? ⟨w.heap.size, 1, none⟩ = some (.slice A n.length a) ∧ W.cell? ⟨w.heap.size, 2, none⟩ = some (.slice B e.length b) ∧ W.cell? ⟨w.heap.size, 3, none⟩ = some (.slice C l.length c) ∧ W.cell? ⟨w.heap.size, 4, none⟩ = some (.slice D v.length d)) ∧ Below w.heap.size w W ∧ w.heap.size < W.heap.size from fun W hW => by
    obtain ⟨q, _⟩ := box5 ((hW.block w.heap.size (by omega)).trans (box_new w _ _))
    exact ⟨q, ((Below.refl w.heap.size w).alloc (Nat.le_refl _) _).trans (hW.mono (by omega)), by have h := hW.size; simp at h; omega⟩)
  have hkb : (UInt8.ofNat k).toNat = k := by rw [UInt8.toNat_ofNat']; omega
  have Hkb := Lib.hid (show ∀ W : World, Bs All (W.alloc (.cells #[.int .u8 (k : Int)] 5)) (some ⟨W.heap.size, 0, none⟩) [UInt8.ofNat k] from fun W => bs_block (t := 5) (by rw [box_new]; simp [bv, hkb]) trivial)
  have hkb2 := hkb
  clear hA hB hC hD hrq hf sm1 sm2 sm3 hkb
  go_enter Tryd.func25, Tryd.ntmps25
  go_wp2_with (first
    | (go_at_call 23; refine (Hrf.out _).mono ?_; rintro e1 w1 ⟨rfl, hb1'⟩; rw [Hrq.out]; have hb1 := hb1'.mono (show w.heap.size + 1 ≤ _ by simp); obtain ⟨⟨qa1, qb1, qc1, qd1, qe1⟩, hw1, hz1⟩ := Hbox.out w1 hb1; clear hb1')
    | (go_at_call 80; refine (Hnm.out _).mono ?_; rintro e1 wn ⟨rfl, rfl⟩)
    | (go_at_call 83; (with_reducible refine (lengthAnd_ok _ A n a ?ha ?hn).mono ?_); (case ha => exact HA.out.bbelow ((Hbox.out _ (hb1.alloc (by omega) _)).2.1)); (case hn => (unfold big; omega)); rintro e2 w2 ⟨A2, c2, rfl, hs2, hb2'⟩; have hb2 : Below (w.heap.size + 1) _ w2 := (hb1.alloc (by omega) _).next hb2' (by simp; omega); obtain ⟨⟨qa2, qb2, qc2, qd2, qe2⟩, hw2, hz2⟩ := Hbox.out w2 hb2)
    | (go_at_call 83; (with_reducible refine (lengthAnd_ok _ B e b ?ha ?hn).mono ?_); (case ha => exact HB.out.bbelow ((Hbox.out _ hb2).2.1)); (case hn => (unfold big; omega)); rintro e3 w3 ⟨A3, c3, rfl, hs3, hb3'⟩; have hb3 : Below (w.heap.size + 1) _ w3 := hb2.next hb3' hz2; obtain ⟨⟨qa3, qb3, qc3, qd3, qe3⟩, hw3, hz3⟩ := Hbox.out w3 hb3)
    | (go_at_call 84; (with_reducible refine (joined_at _ (some ⟨w1.heap.size, 0, none⟩) A2 _ _ ([UInt8.ofNat k]) (lpS n) ?hna ?hnb 1 c2 ?ha ?hb ?hn).mono ?_); (case hna => (first | (simp [lpS]; done) | (simp [lpS]; omega))); (case hnb => rfl); (case ha => exact (((Hkb.out w1).bbelow hb2').bbelow hb3')); (case hb => exact (hs2.bz.bbelow hb3')); (case hn => (simp [lpS]; unfold big; omega)); rintro e4 w4 ⟨A4, c4, rfl, hs4, hb4'⟩; have hb4 : Below (w.heap.size + 1) _ w4 := hb3.next hb4' hz3; obtain ⟨⟨qa4, qb4, qc4, qd4, qe4⟩, hw4, hz4⟩ := Hbox.out w4 hb4)
    | (go_at_call 84; (with_reducible refine (joined_at _ A4 A3 _ _ ([UInt8.ofNat k] ++ lpS n) (lpS e) ?hna ?hnb c4 c3 ?ha ?hb ?hn).mono ?_); (case hna => (first | (simp [lpS]; done) | (simp [lpS]; omega))); (case hnb => rfl); (case ha => exact hs4.bz); (case hb => exact (hs3.bz.bbelow hb4')); (case hn => (simp [lpS]; unfold big; omega)); rintro e5 w5 ⟨A5, c5, rfl, hs5, hb5'⟩; have hb5 : Below (w.heap.size + 1) _ w5 := hb4.next hb5' hz4; obtain ⟨⟨qa5, qb5, qc5, qd5, qe5⟩, hw5, hz5⟩ := Hbox.out w5 hb5))
  have he : encUp 3 ⟨k, n, e, l, v⟩ 4 = [UInt8.ofNat k] ++ lpS n ++ lpS e := by simp [encUp, partAt, Int.toNat_natCast]
  go_ret2
  rw [he]
  exact ⟨A5, c5, by first | (simp [lpS]; done) | (simp [lpS]; omega), hs5.blo hw4.size, hw5⟩
set_option maxRecDepth 100000 in
set_option maxHeartbeats 4000000 in
theorem rqBytes_7 (w : World) (A B C D : Option Addr) (n e l v : List UInt8) (a b c d : Nat) (hA : Bs All w A n) (hB : Bs All w B e) (hC : Bs All w C l) (hD : Bs All w D v) (hbn : n.length ≤ big) (hbe : e.length ≤ big) (hrq : rqFault ⟨3, n, e, l, v⟩ = 0) (hf : bodyFault 7 ⟨3, n, e, l, v⟩ = 0) :
    Calls Tryd.prog 25 #[.agg #[.int .i64 3, .slice A n.length a, .slice B e.length b, .slice C l.length c, .slice D v.length d]] w (RetBI w (encUp 7 ⟨3, n, e, l, v⟩ 4, 0)) := by
  obtain ⟨sm1, sm2, sm3⟩ := body_small hf
  have Hrq := Lib.hid hrq
  have Hrf := Lib.hid (fun W : World => rqFault_ok W A B C D ⟨3, n, e, l, v⟩ a b c d hbn hbe)
  obtain ⟨hn8, he16⟩ : n.length ≤ 8 ∧ e.length ≤ 16 := sm1 (by decide)
  have hl16 : l.length ≤ 16 := sm2 (by decide) (by decide)
  have hv32 : v.length ≤ 32 := sm3
  have HA := Lib.hid hA
  have HB := Lib.hid hB
  have HC := Lib.hid hC
  have HD := Lib.hid hD
  have Hnm := Lib.hid (show ∀ W : World, Calls Tryd.prog 80 #[.int .i64 3] W (fun e w' => e = .returned (.bool true) ∧ w' = W) from fun W => named_ok W 3 (by decide) (by decide))
  have Hbox := Lib.hid (show ∀ W, Below (w.heap.size + 1) (w.alloc (.cells #[.int .i64 3, .slice A n.length a, .slice B e.length b, .slice C l.length c, .slice D v.length d] 24)) W → (W.cell? ⟨w.heap.size, 0, none⟩ = some (.int .i64 3) ∧ W.cell? ⟨w.heap.size, 1, none⟩ = some (.slice A n.length a) ∧ W.cell? ⟨w.heap.size, 2, none⟩ = some (.slice B e.length b) ∧ W.cell? ⟨w.heap.size, 3, none⟩ = some (.slice C l.length c) ∧ W.cell? ⟨w.heap.size, 4, none⟩ = some (.slice D v.length d)) ∧ Below w.heap.size w W ∧ w.heap.size < W.heap.size from fun W hW => by
    obtain ⟨q, _⟩ := box5 ((hW.block w.heap.size (by omega)).trans (box_new w _ _))
    exact ⟨q, ((Below.refl w.heap.size w).alloc (Nat.le_refl _) _).trans (hW.mono (by omega)), by have h := hW.size; simp at h; omega⟩)
  have hkb : (UInt8.ofNat 3).toNat = 3 := by rfl
  have Hkb := Lib.hid (show ∀ W : World, Bs All (W.alloc (.cells #[.int .u8 (3 : Int)] 5)) (some ⟨W.heap.size, 0, none⟩) [UInt8.ofNat 3] from fun W => bs_block (t := 5) (by rw [box_new]; simp [bv, hkb]) trivial)
  have hkb2 := hkb
  clear hA hB hC hD hrq hf sm1 sm2 sm3 hkb
  go_enter Tryd.func25, Tryd.ntmps25
  go_wp2_with (first
    | (go_at_call 23; refine (Hrf.out _).mono ?_; rintro e1 w1 ⟨rfl, hb1'⟩; rw [Hrq.out]; have hb1 := hb1'.mono (show w.heap.size + 1 ≤ _ by simp); obtain ⟨⟨qa1, qb1, qc1, qd1, qe1⟩, hw1, hz1⟩ := Hbox.out w1 hb1; clear hb1')
    | (go_at_call 80; refine (Hnm.out _).mono ?_; rintro e1 wn ⟨rfl, rfl⟩)
    | (go_at_call 83; (with_reducible refine (lengthAnd_ok _ A n a ?ha ?hn).mono ?_); (case ha => exact HA.out.bbelow ((Hbox.out _ (hb1.alloc (by omega) _)).2.1)); (case hn => (unfold big; omega)); rintro e2 w2 ⟨A2, c2, rfl, hs2, hb2'⟩; have hb2 : Below (w.heap.size + 1) _ w2 := (hb1.alloc (by omega) _).next hb2' (by simp; omega); obtain ⟨⟨qa2, qb2, qc2, qd2, qe2⟩, hw2, hz2⟩ := Hbox.out w2 hb2)
    | (go_at_call 83; (with_reducible refine (lengthAnd_ok _ B e b ?ha ?hn).mono ?_); (case ha => exact HB.out.bbelow ((Hbox.out _ hb2).2.1)); (case hn => (unfold big; omega)); rintro e3 w3 ⟨A3, c3, rfl, hs3, hb3'⟩; have hb3 : Below (w.heap.size + 1) _ w3 := hb2.next hb3' hz2; obtain ⟨⟨qa3, qb3, qc3, qd3, qe3⟩, hw3, hz3⟩ := Hbox.out w3 hb3)
    | (go_at_call 84; (with_reducible refine (joined_at _ (some ⟨w1.heap.size, 0, none⟩) A2 _ _ ([UInt8.ofNat 3]) (lpS n) ?hna ?hnb 1 c2 ?ha ?hb ?hn).mono ?_); (case hna => (first | (simp [lpS]; done) | (simp [lpS]; omega))); (case hnb => rfl); (case ha => exact (((Hkb.out w1).bbelow hb2').bbelow hb3')); (case hb => exact (hs2.bz.bbelow hb3')); (case hn => (simp [lpS]; unfold big; omega)); rintro e4 w4 ⟨A4, c4, rfl, hs4, hb4'⟩; have hb4 : Below (w.heap.size + 1) _ w4 := hb3.next hb4' hz3; obtain ⟨⟨qa4, qb4, qc4, qd4, qe4⟩, hw4, hz4⟩ := Hbox.out w4 hb4)
    | (go_at_call 84; (with_reducible refine (joined_at _ A4 A3 _ _ ([UInt8.ofNat 3] ++ lpS n) (lpS e) ?hna ?hnb c4 c3 ?ha ?hb ?hn).mono ?_); (case hna => (first | (simp [lpS]; done) | (simp [lpS]; omega))); (case hnb => rfl); (case ha => exact hs4.bz); (case hb => exact (hs3.bz.bbelow hb4')); (case hn => (simp [lpS]; unfold big; omega)); rintro e5 w5 ⟨A5, c5, rfl, hs5, hb5'⟩; have hb5 : Below (w.heap.size + 1) _ w5 := hb4.next hb5' hz4; obtain ⟨⟨qa5, qb5, qc5, qd5, qe5⟩, hw5, hz5⟩ := Hbox.out w5 hb5)
    | (go_at_call 83; (with_reducible refine (lengthAnd_ok _ C l c ?ha ?hn).mono ?_); (case ha => exact HC.out.bbelow ((Hbox.out _ hb5).2.1)); (case hn => (unfold big; omega)); rintro e6 w6 ⟨A6, c6, rfl, hs6, hb6'⟩; have hb6 : Below (w.heap.size + 1) _ w6 := hb5.next hb6' hz5; obtain ⟨⟨qa6, qb6, qc6, qd6, qe6⟩, hw6, hz6⟩ := Hbox.out w6 hb6)
    | (go_at_call 84; (with_reducible refine (joined_at _ A5 A6 _ _ ([UInt8.ofNat 3] ++ lpS n ++ lpS e) (lpS l) ?hna ?hnb c5 c6 ?ha ?hb ?hn).mono ?_); (case hna => (first | (simp [lpS]; done) | (simp [lpS]; omega))); (case hnb => rfl); (case ha => exact (hs5.bz.bbelow hb6')); (case hb => exact hs6.bz); (case hn => (simp [lpS]; unfold big; omega)); rintro e7 w7 ⟨A7, c7, rfl, hs7, hb7'⟩; have hb7 : Below (w.heap.size + 1) _ w7 := hb6.next hb7' hz6; obtain ⟨⟨qa7, qb7, qc7, qd7, qe7⟩, hw7, hz7⟩ := Hbox.out w7 hb7))
  have he : encUp 7 ⟨3, n, e, l, v⟩ 4 = [UInt8.ofNat 3] ++ lpS n ++ lpS e ++ lpS l := by simp [encUp, partAt]
  go_ret2
  rw [he]
  exact ⟨A7, c7, by first | (simp [lpS]; done) | (simp [lpS]; omega), hs7.blo hw6.size, hw7⟩
set_option maxRecDepth 100000 in
set_option maxHeartbeats 4000000 in
theorem rqBytes_11 (w : World) (A B C D : Option Addr) (n e l v : List UInt8) (a b c d : Nat) (hA : Bs All w A n) (hB : Bs All w B e) (hC : Bs All w C l) (hD : Bs All w D v) (hbn : n.length ≤ big) (hbe : e.length ≤ big) (hrq : rqFault ⟨4, n, e, l, v⟩ = 0) (hf : bodyFault 11 ⟨4, n, e, l, v⟩ = 0) :
    Calls Tryd.prog 25 #[.agg #[.int .i64 4, .slice A n.length a, .slice B e.length b, .slice C l.length c, .slice D v.length d]] w (RetBI w (encUp 11 ⟨4, n, e, l, v⟩ 4, 0)) := by
  obtain ⟨sm1, sm2, sm3⟩ := body_small hf
  have Hrq := Lib.hid hrq
  have Hrf := Lib.hid (fun W : World => rqFault_ok W A B C D ⟨4, n, e, l, v⟩ a b c d hbn hbe)
  obtain ⟨hn8, he16⟩ : n.length ≤ 8 ∧ e.length ≤ 16 := sm1 (by decide)
  have hv32 : v.length ≤ 32 := sm3
  have HA := Lib.hid hA
  have HB := Lib.hid hB
  have HC := Lib.hid hC
  have HD := Lib.hid hD
  have Hnm := Lib.hid (show ∀ W : World, Calls Tryd.prog 80 #[.int .i64 4] W (fun e w' => e = .returned (.bool true) ∧ w' = W) from fun W => named_ok W 4 (by decide) (by decide))
  have Hbox := Lib.hid (show ∀ W, Below (w.heap.size + 1) (w.alloc (.cells #[.int .i64 4, .slice A n.length a, .slice B e.length b, .slice C l.length c, .slice D v.length d] 24)) W → (W.cell? ⟨w.heap.size, 0, none⟩ = some (.int .i64 4) ∧ W.cell? ⟨w.heap.size, 1, none⟩ = some (.slice A n.length a) ∧ W.cell? ⟨w.heap.size, 2, none⟩ = some (.slice B e.length b) ∧ W.cell? ⟨w.heap.size, 3, none⟩ = some (.slice C l.length c) ∧ W.cell? ⟨w.heap.size, 4, none⟩ = some (.slice D v.length d)) ∧ Below w.heap.size w W ∧ w.heap.size < W.heap.size from fun W hW => by
    obtain ⟨q, _⟩ := box5 ((hW.block w.heap.size (by omega)).trans (box_new w _ _))
    exact ⟨q, ((Below.refl w.heap.size w).alloc (Nat.le_refl _) _).trans (hW.mono (by omega)), by have h := hW.size; simp at h; omega⟩)
  have hkb : (UInt8.ofNat 4).toNat = 4 := by rfl
  have Hkb := Lib.hid (show ∀ W : World, Bs All (W.alloc (.cells #[.int .u8 (4 : Int)] 5)) (some ⟨W.heap.size, 0, none⟩) [UInt8.ofNat 4] from fun W => bs_block (t := 5) (by rw [box_new]; simp [bv, hkb]) trivial)
  have hkb2 := hkb
  clear hA hB hC hD hrq hf sm1 sm2 sm3 hkb
  go_enter Tryd.func25, Tryd.ntmps25
  go_wp2_with (first
    | (go_at_call 23; refine (Hrf.out _).mono ?_; rintro e1 w1 ⟨rfl, hb1'⟩; rw [Hrq.out]; have hb1 := hb1'.mono (show w.heap.size + 1 ≤ _ by simp); obtain ⟨⟨qa1, qb1, qc1, qd1, qe1⟩, hw1, hz1⟩ := Hbox.out w1 hb1; clear hb1')
    | (go_at_call 80; refine (Hnm.out _).mono ?_; rintro e1 wn ⟨rfl, rfl⟩)
    | (go_at_call 83; (with_reducible refine (lengthAnd_ok _ A n a ?ha ?hn).mono ?_); (case ha => exact HA.out.bbelow ((Hbox.out _ (hb1.alloc (by omega) _)).2.1)); (case hn => (unfold big; omega)); rintro e2 w2 ⟨A2, c2, rfl, hs2, hb2'⟩; have hb2 : Below (w.heap.size + 1) _ w2 := (hb1.alloc (by omega) _).next hb2' (by simp; omega); obtain ⟨⟨qa2, qb2, qc2, qd2, qe2⟩, hw2, hz2⟩ := Hbox.out w2 hb2)
    | (go_at_call 83; (with_reducible refine (lengthAnd_ok _ B e b ?ha ?hn).mono ?_); (case ha => exact HB.out.bbelow ((Hbox.out _ hb2).2.1)); (case hn => (unfold big; omega)); rintro e3 w3 ⟨A3, c3, rfl, hs3, hb3'⟩; have hb3 : Below (w.heap.size + 1) _ w3 := hb2.next hb3' hz2; obtain ⟨⟨qa3, qb3, qc3, qd3, qe3⟩, hw3, hz3⟩ := Hbox.out w3 hb3)
    | (go_at_call 84; (with_reducible refine (joined_at _ (some ⟨w1.heap.size, 0, none⟩) A2 _ _ ([UInt8.ofNat 4]) (lpS n) ?hna ?hnb 1 c2 ?ha ?hb ?hn).mono ?_); (case hna => (first | (simp [lpS]; done) | (simp [lpS]; omega))); (case hnb => rfl); (case ha => exact (((Hkb.out w1).bbelow hb2').bbelow hb3')); (case hb => exact (hs2.bz.bbelow hb3')); (case hn => (simp [lpS]; unfold big; omega)); rintro e4 w4 ⟨A4, c4, rfl, hs4, hb4'⟩; have hb4 : Below (w.heap.size + 1) _ w4 := hb3.next hb4' hz3; obtain ⟨⟨qa4, qb4, qc4, qd4, qe4⟩, hw4, hz4⟩ := Hbox.out w4 hb4)
    | (go_at_call 84; (with_reducible refine (joined_at _ A4 A3 _ _ ([UInt8.ofNat 4] ++ lpS n) (lpS e) ?hna ?hnb c4 c3 ?ha ?hb ?hn).mono ?_); (case hna => (first | (simp [lpS]; done) | (simp [lpS]; omega))); (case hnb => rfl); (case ha => exact hs4.bz); (case hb => exact (hs3.bz.bbelow hb4')); (case hn => (simp [lpS]; unfold big; omega)); rintro e5 w5 ⟨A5, c5, rfl, hs5, hb5'⟩; have hb5 : Below (w.heap.size + 1) _ w5 := hb4.next hb5' hz4; obtain ⟨⟨qa5, qb5, qc5, qd5, qe5⟩, hw5, hz5⟩ := Hbox.out w5 hb5)
    | (go_at_call 83; (with_reducible refine (lengthAnd_ok _ D v d ?ha ?hn).mono ?_); (case ha => exact HD.out.bbelow ((Hbox.out _ hb5).2.1)); (case hn => (unfold big; omega)); rintro e6 w6 ⟨A6, c6, rfl, hs6, hb6'⟩; have hb6 : Below (w.heap.size + 1) _ w6 := hb5.next hb6' hz5; obtain ⟨⟨qa6, qb6, qc6, qd6, qe6⟩, hw6, hz6⟩ := Hbox.out w6 hb6)
    | (go_at_call 84; (with_reducible refine (joined_at _ A5 A6 _ _ ([UInt8.ofNat 4] ++ lpS n ++ lpS e) (lpS v) ?hna ?hnb c5 c6 ?ha ?hb ?hn).mono ?_); (case hna => (first | (simp [lpS]; done) | (simp [lpS]; omega))); (case hnb => rfl); (case ha => exact (hs5.bz.bbelow hb6')); (case hb => exact hs6.bz); (case hn => (simp [lpS]; unfold big; omega)); rintro e7 w7 ⟨A7, c7, rfl, hs7, hb7'⟩; have hb7 : Below (w.heap.size + 1) _ w7 := hb6.next hb7' hz6; obtain ⟨⟨qa7, qb7, qc7, qd7, qe7⟩, hw7, hz7⟩ := Hbox.out w7 hb7))
  have he : encUp 11 ⟨4, n, e, l, v⟩ 4 = [UInt8.ofNat 4] ++ lpS n ++ lpS e ++ lpS v := by simp [encUp, partAt]
  go_ret2
  rw [he]
  exact ⟨A7, c7, by first | (simp [lpS]; done) | (simp [lpS]; omega), hs7.blo hw6.size, hw7⟩
end Go.Proofs.YtddppmhpdgecgaaDoor
