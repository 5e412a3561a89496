/- Walks: CommitBytes and tape.Encode; the law TapeEncodes. -/
import Derived.Test.YthhcdibimnifaaaEnc
namespace Go.Proofs.Ythhcdibimnifaaa
open Go.RowKit
set_option linter.unusedVariables false
set_option linter.unusedSimpArgs false

/-- A write as bytes. -/
def wrBytes (x : Wr) : List UInt8 := lpS x.name ++ (lpS x.key ++ (if x.flag = true then [255] else lpS x.value))
def headS (c : Cm) : List UInt8 := [UInt8.ofNat (c.1.toNat / 65536), UInt8.ofNat (c.1.toNat / 256), UInt8.ofNat c.1.toNat, UInt8.ofNat c.2.length]
/-- What is written behind so many writes. -/
def encTo (c : Cm) (k : Nat) : List UInt8 := headS c ++ ((c.2.take k).map wrBytes).flatten
theorem encTo_next {c : Cm} {k : Nat} (h : k < c.2.length) : encTo c (k + 1) = encTo c k ++ wrBytes c.2[k] := by
  unfold encTo
  rw [take_snoc _ _ h, List.map_append, List.flatten_append]
  simp
theorem encTo_zero (c : Cm) : encTo c 0 = headS c := by simp [encTo]
/-- What Encode and CommitBytes answer. -/
def encS (c : Cm) : List UInt8 × Int := if commitFaultS c ≠ 0 then ([], commitFaultS c) else (encTo c c.2.length, 0)
theorem keyFine {k : List UInt8} (h : keyFault k = 0) : k.length ≤ 16 := by
  unfold keyFault at h
  split at h
  · omega
  · cases h
theorem wrFine {x : Wr} (h : writeFaultS x = 0) : x.name.length ≤ 8 ∧ x.key.length ≤ 16 ∧ x.value.length ≤ 32 := by
  unfold writeFaultS at h
  by_cases h1 : nameFault x.name = 0
  · rw [if_neg (by simpa using h1)] at h
    refine ⟨?_, ?_⟩
    · unfold nameFault at h1
      split at h1
      · omega
      · cases h1
    · split at h
      · split at h
        · rename_i hk; exact absurd h hk
        · rename_i hk
          split at h
          · cases h
          · exact ⟨keyFine (by simpa using hk), by omega⟩
      · unfold pairFaultS at h
        dsimp only at h
        split at h
        · cases h
        · exact ⟨keyFine h, by omega⟩
  · rw [if_pos h1] at h
    exact absurd h h1
theorem cm_fine {c : Cm} (h : commitFaultS c = 0) : (1 ≤ c.1 ∧ c.1 ≤ 1048576) ∧ c.2.length ≤ 10 ∧ ∀ i (hi : i < c.2.length), writeFaultS c.2[i] = 0 := by
  unfold commitFaultS at h
  by_cases h1 : 1 ≤ c.1 ∧ c.1 ≤ 1048576
  · rw [if_neg (by simpa using h1)] at h
    split at h
    · cases h
    · have hz := firstBad_zero _ _ h
      have hl : c.2.length ≤ 10 := by
        rcases Nat.lt_or_ge 10 c.2.length with h2 | h2
        · have := hz 10 h2
          rw [Nat.zero_add, cwAt_high (Nat.le_refl _)] at this
          cases this
        · exact h2
      refine ⟨h1, hl, fun i hi => ?_⟩
      have := hz i hi
      rw [Nat.zero_add, cwAt_low hi (by omega)] at this
      exact this
  · rw [if_pos h1] at h
    cases h
theorem wrBytes_len {x : Wr} (h : writeFaultS x = 0) : (wrBytes x).length ≤ 59 := by
  obtain ⟨h1, h2, h3⟩ := wrFine h
  unfold wrBytes
  split
  · simp [lpS]; omega
  · simp [lpS]; omega
theorem encTo_len {c : Cm} (h : commitFaultS c = 0) : ∀ k, k ≤ c.2.length → (encTo c k).length ≤ 4 + k * 59 := by
  intro k
  induction k with
  | zero => intro _; rw [encTo_zero]; simp [headS]
  | succ k ih =>
    intro hk
    rw [encTo_next (by omega), List.length_append]
    have := ih (by omega)
    have := wrBytes_len ((cm_fine h).2.2 k (by omega))
    omega
/-- The call returns bytes and a number. -/
def RetBE (w : World) (r : List UInt8 × Int) (e : Ending) (w' : World) : Prop :=
  ∃ A c, e = .returned (.tuple #[.slice A r.1.length c, .int .i64 r.2]) ∧ Bs (From w.heap.size) w' A r.1 ∧ Below w.heap.size w w'
theorem joined_eq {r : List UInt8} {na nb : Nat} (w : World) (A B : Option Addr) (a b : List UInt8) (c d : Nat) (hr : a ++ b = r) (hna : na = a.length) (hnb : nb = b.length) (ha : Bs All w A a) (hb : Bs All w B b) (hn : a.length + b.length ≤ big) :
    Calls Try.prog 90 #[.slice A na c, .slice B nb d] w (RetBs w r) := by
  subst hr hna hnb
  exact joined_ok w A B a b c d ha hb hn
theorem u8_of (n : Nat) : ((UInt8.ofNat n).toNat : Int) = ((n % 256 : Nat) : Int) := by simp
set_option maxRecDepth 100000 in
set_option maxHeartbeats 1000000 in
theorem commitBytes_bad (w : World) (A : Option Addr) (t : Int) (l : List Wr) (n : Nat) (ha : Ws All w A l) (hn : l.length * 80 ≤ 140737488355328) (h1 : commitFaultS (t, l) ≠ 0) :
    Calls Try.prog 52 #[.agg #[.int .i64 t, .slice A l.length n]] w (RetBE w (encS (t, l))) := by
  have Ha := Lib.hid ha
  clear ha
  have b1 : (commitFaultS (t, l) != 0) = true := by simpa using h1
  have Hv := Lib.hid (show encS (t, l) = ([], commitFaultS (t, l)) by unfold encS; rw [if_pos h1])
  clear h1
  go_enter Try.func52, Try.ntmps52
  go_wp2_with (go_at_call 50; refine (commitFault_ok _ A t l n (Ha.out.below wrR_stays ?_) hn).mono ?_; (repeat' (first | exact Below.refl _ _ | assumption | refine Below.drew ?_ | refine below_drewN ?_ _ | refine Below.alloc ?_ (by first | exact Nat.le_refl _ | omega | (simp; done) | (simp; omega)) _)); rintro e w1 ⟨rfl, hb1⟩)
  go_ret2
  rw [Hv.out]
  exact ⟨none, 0, rfl, SL.nil, Below.next ((Below.refl _ _).alloc (Nat.le_refl _) _) hb1 (by simp)⟩
set_option maxRecDepth 100000 in
set_option maxHeartbeats 2000000 in
theorem commitBytes_ok (w : World) (A : Option Addr) (t : Nat) (l : List Wr) (n : Nat) (ha : Ws All w A l) (hn : l.length * 80 ≤ 140737488355328) :
    Calls Try.prog 52 #[.agg #[.int .i64 (t : Int), .slice A l.length n]] w (RetBE w (encS ((t : Int), l))) := by
  have Ha := Lib.hid ha
  clear ha
  by_cases h1 : commitFaultS ((t : Int), l) = 0
  · have bc : (commitFaultS ((t : Int), l) != 0) = false := by simp [h1]
    have Hv := Lib.hid (show encS ((t : Int), l) = (encTo ((t : Int), l) l.length, 0) by unfold encS; rw [if_neg (by simpa using h1)])
    obtain ⟨⟨hf1, hf2⟩, hf3, hf4⟩ := cm_fine h1
    have Hlen := Lib.hid (encTo_len h1)
    have Hwl := Lib.hid (fun i hi => wrFine (hf4 i hi))
    dsimp only at hf1 hf2 hf3
    have Hbx := Lib.hid (box_new w #[.int .i64 (t : Int), .slice A l.length n] 59)
    have Hb0 := Lib.hid (show Below w.heap.size w (w.alloc (.cells #[.int .i64 (t : Int), .slice A l.length n] 59)) from (Below.refl _ _).alloc (Nat.le_refl _) _)
    have Hhd := Lib.hid (show (#[.int .u8 ((t : Int) / 65536), .int .u8 ((t : Int) / 256 % 256), .int .u8 ((t : Int) % 256), .int .u8 (l.length : Int)] : Array Value) = ((headS ((t : Int), l)).map bv).toArray by simp [headS, bv]; omega)
    clear h1 hf4
    go_enter Try.func52, Try.ntmps52
    go_wp2_with (go_at_call 50; refine (commitFault_ok _ A (t : Int) l n (Ha.out.below wrR_stays ?_) hn).mono ?_; (repeat' (first | exact Below.refl _ _ | assumption | refine Below.drew ?_ | refine below_drewN ?_ _ | refine Below.alloc ?_ (by first | exact Nat.le_refl _ | omega | (simp; done) | (simp; omega)) _)); rintro e w1 ⟨rfl, hb1⟩; have hbw1 := Hb0.out.next hb1 (by simp); have Hbx1 := Lib.hid ((hb1.block _ (by simp)).trans Hbx.out); have hz1 : w.heap.size < w1.heap.size := (by have := hb1.size; simp at this; omega); obtain ⟨g0, g1, _, _⟩ := box2 Hbx1.out)
    generalize hW : w1.alloc _ = w2
    have hx2 : w2.heap[w1.heap.size]? = some (.cells ((headS ((t : Int), l)).map bv).toArray 5 (0, 0)) := by rw [← hW, ← Hhd.out]; exact box_new w1 _ _
    have Hb12 := Lib.hid (show Below w1.heap.size w1 w2 by rw [← hW]; exact (Below.refl _ _).alloc (Nat.le_refl _) _)
    have hz2 : w2.heap.size = w1.heap.size + 1 := by rw [← hW]; simp
    clear hW
    have Hx2 := Lib.hid hx2
    have Hbw1 := Lib.hid hbw1
    clear hx2 Hhd g0 g1 hb1 hbw1
    go_loopw [5, 6] (fun v i wr => ∃ (k : Nat) (D : Option Addr) (cd : Nat), k ≤ l.length ∧ v = .slice D (encTo ((t : Int), l) k).length cd ∧ Bs (From w.heap.size) wr D (encTo ((t : Int), l) k) ∧ i = .int .i64 k ∧ Below w2.heap.size w2 wr) (fun _ i _ => l.length - (intOf i).toNat)
    case atStart => exact ⟨0, _, _, by omega, by rw [encTo_zero]; rfl, by rw [encTo_zero]; exact bs_block Hx2.out (by simp only [From]; omega), rfl, Below.refl _ _⟩
    case round =>
      obtain ⟨k, D, cd, hk, rfl, hd, rfl, hbel⟩ := hrel
      have Hbel := Lib.hid hbel
      have Hd := Lib.hid hd
      have hbz := hbel.size
      have Hb2 := Lib.hid (Hb12.out.next hbel (by omega))
      obtain ⟨g0, g1, _, _⟩ := box2 ((Hb2.out.block _ hz1).trans Hbx1.out)
      have Hbw := Lib.hid (Hbw1.out.next Hb2.out (by omega))
      clear hbel hd
      by_cases hlt : k < l.length
      · have Hnx := Lib.hid (encTo_next (c := ((t : Int), l)) hlt)
        have hel := Hlen.out k (by omega)
        obtain ⟨g, off, A1, a1, B1, b1, C1, c1, rfl, _, hal, hc1, hc2, hc3, hc4, hs1, hs2, hs3, _, _, _⟩ := wrs_at (Ha.out.below wrR_stays Hbw.out) hlt
        obtain ⟨y1, y2, y3⟩ := Hwl.out k hlt
        dsimp only at Hnx
        have Hs1 := Lib.hid hs1.bz
        have Hs2 := Lib.hid hs2.bz
        have Hs3 := Lib.hid hs3.bz
        clear hs1 hs2 hs3
        generalize l[k] = x at *
        generalize encTo ((t : Int), l) k = E at *
        obtain ⟨xn, xk, xf, xv⟩ := x
        dsimp only at *
        cases xf with
        | true =>
            have Hbox := Lib.hid (show ∀ W, Below (wr.heap.size + 1) (wr.alloc (.cells #[.slice A1 xn.length a1, .slice B1 xk.length b1, .bool true, .slice C1 xv.length c1] 94)) W → W.heap[wr.heap.size]? = some (.cells #[.slice A1 xn.length a1, .slice B1 xk.length b1, .bool true, .slice C1 xv.length c1] 94 (0, 0)) ∧ Below wr.heap.size wr W ∧ wr.heap.size + 1 ≤ W.heap.size from fun W hW =>
              ⟨(hW.block _ (by omega)).trans (box_new wr _ _), ((Below.refl wr.heap.size wr).alloc (Nat.le_refl _) _).trans (hW.mono (by omega)), by simpa using hW.size⟩)
            obtain ⟨E1, hE1⟩ : ∃ E1, E ++ lpS xn = E1 := ⟨_, rfl⟩
            obtain ⟨E2, hE2⟩ : ∃ E2, E1 ++ lpS xk = E2 := ⟨_, rfl⟩
            obtain ⟨E3, hE3⟩ : ∃ E3, E2 ++ [255] = E3 := ⟨_, rfl⟩
            have hl1 : E1.length ≤ 800 := by rw [← hE1, List.length_append, lp_len]; omega
            have hl2 : E2.length ≤ 900 := by rw [← hE2, List.length_append, lp_len]; omega
            have HE1 := Lib.hid hE1
            have HE2 := Lib.hid hE2
            have HE3 := Lib.hid hE3
            clear hE1 hE2 hE3
            go_wp2_with (first
              | (go_at_call_of 116 A1; refine (lengthAnd_ok _ A1 xn a1 ?hx (by unfold big; omega)).mono ?_; (case hx => exact Hs1.out.bbelow ((Below.refl _ _).alloc (Nat.le_refl _) _)); rintro e w3 ⟨N, nc, rfl, ns, hb3⟩; have hk3 : Below (wr.heap.size + 1) (wr.alloc (.cells #[.slice A1 xn.length a1, .slice B1 xk.length b1, .bool true, .slice C1 xv.length c1] 94)) w3 := hb3.mono (by simp); obtain ⟨qx, qb, qz⟩ := Hbox.out _ hk3; obtain ⟨q0, q1, q2, q3, _⟩ := box4 qx; have Ns := Lib.hid ns; have Hk3 := Lib.hid hk3; have Qb := Lib.hid qb; clear ns qx hk3 qb hb3)
              | (go_at_call_of 116 B1; clear q0 q1 q2 q3; refine (lengthAnd_ok _ B1 xk b1 (Hs2.out.bbelow Qb.out) (by unfold big; omega)).mono ?_; rintro e w4 ⟨M, mc, rfl, ms, hb4⟩; have hk4 := Hk3.out.next hb4 qz; obtain ⟨qx, qb, qz'⟩ := Hbox.out _ hk4; obtain ⟨q0, q1, q2, q3, _⟩ := box4 qx; have Ms := Lib.hid ms; have Hk4 := Lib.hid hk4; have Qb4 := Lib.hid qb; have Hb4 := Lib.hid hb4; clear ms qx hk4 qb hb4)
              | (go_at_call_of 116 C1; clear q0 q1 q2 q3; refine (lengthAnd_ok _ C1 xv c1 (Hs3.out.bbelow Qb4.out) (by unfold big; omega)).mono ?_; rintro e w5 ⟨O, oc, rfl, os, hb5⟩; have hk5 := Hk4.out.next hb5 qz'; obtain ⟨qx, qb, qz5⟩ := Hbox.out _ hk5; obtain ⟨q0, q1, q2, q3, _⟩ := box4 qx; have Os := Lib.hid os; have Qb5 := Lib.hid qb; have Hb5 := Lib.hid hb5; clear os qx hk5 qb hb5)
              | (go_at_call 90; (with_reducible refine (joined_eq _ D N E (lpS xn) cd nc HE1.out rfl rfl ?hx ?hy (by unfold big; simp only [lp_len, List.length_singleton]; omega)).mono ?_); (case hx => (exact (Hd.out.bz.bbelow Qb5.out).bbelow ((Below.refl _ _).alloc (Nat.le_refl _) _))); (case hy => (exact ((Ns.out.bz.bbelow Hb4.out).bbelow Hb5.out).bbelow ((Below.refl _ _).alloc (Nat.le_refl _) _))); rintro e w6 ⟨J1, j1, rfl, gs1, hb6⟩; have Gs1 := Lib.hid gs1; have Hb6 := Lib.hid hb6; clear gs1)
              | (go_at_call 90; (with_reducible refine (joined_eq _ J1 M E1 (lpS xk) j1 mc HE2.out rfl rfl ?hx ?hy (by unfold big; simp only [lp_len, List.length_singleton]; omega)).mono ?_); (case hx => (exact Gs1.out.bz)); (case hy => (exact ((Ms.out.bz.bbelow Hb5.out).bbelow ((Below.refl _ _).alloc (Nat.le_refl _) _)).bbelow Hb6.out)); rintro e w7 ⟨J2, j2, rfl, gs2, hb7⟩; have Gs2 := Lib.hid gs2; have Hb7 := Lib.hid hb7; clear gs2)
              | (go_at_call 90; (with_reducible refine (joined_eq _ J2 (some ⟨w5.heap.size, 0, none⟩) E2 [255] j2 1 HE3.out rfl ?hnb ?hx ?hy (by unfold big; simp only [lp_len, List.length_singleton]; omega)).mono ?_); (case hnb => rfl); (case hx => (exact Gs2.out.bz)); (case hy => (exact ((bs_block (l := [255]) (box_new w5 _ _) trivial).bbelow Hb6.out).bbelow Hb7.out)); rintro e w8 ⟨J3, j3, rfl, gs3, hb8⟩; have Gs3 := Lib.hid gs3; have Hb8 := Lib.hid hb8; clear gs3))
            go_roundw
            case rel =>
              have hq5 := Qb5.out
              have hz6 := Hb6.out.size
              have hz7 := Hb7.out.size
              try simp at hz6
              have hq6 : Below wr.heap.size wr w6 := (hq5.alloc (by omega) _).next Hb6.out (by simp; omega)
              have hq8 : Below wr.heap.size wr w8 := (hq6.next Hb7.out (by omega)).next Hb8.out (by omega)
              exact ⟨k + 1, J3, j3, by omega, by rw [Hnx.out, show (E ++ wrBytes ⟨xn, xk, true, xv⟩) = E3 by rw [← HE3.out, ← HE2.out, ← HE1.out]; simp [wrBytes]], by rw [Hnx.out, show (E ++ wrBytes ⟨xn, xk, true, xv⟩) = E3 by rw [← HE3.out, ← HE2.out, ← HE1.out]; simp [wrBytes]]; exact Gs3.out.blo (by omega), by go_num, Hbel.out.next hq8 hbz⟩
            case measure => simp [intOf]; omega
        | false =>
            have Hbox := Lib.hid (show ∀ W, Below (wr.heap.size + 1) (wr.alloc (.cells #[.slice A1 xn.length a1, .slice B1 xk.length b1, .bool false, .slice C1 xv.length c1] 94)) W → W.heap[wr.heap.size]? = some (.cells #[.slice A1 xn.length a1, .slice B1 xk.length b1, .bool false, .slice C1 xv.length c1] 94 (0, 0)) ∧ Below wr.heap.size wr W ∧ wr.heap.size + 1 ≤ W.heap.size from fun W hW =>
              ⟨(hW.block _ (by omega)).trans (box_new wr _ _), ((Below.refl wr.heap.size wr).alloc (Nat.le_refl _) _).trans (hW.mono (by omega)), by simpa using hW.size⟩)
            obtain ⟨E1, hE1⟩ : ∃ E1, E ++ lpS xn = E1 := ⟨_, rfl⟩
            obtain ⟨E2, hE2⟩ : ∃ E2, E1 ++ lpS xk = E2 := ⟨_, rfl⟩
            obtain ⟨E3, hE3⟩ : ∃ E3, E2 ++ lpS xv = E3 := ⟨_, rfl⟩
            have hl1 : E1.length ≤ 800 := by rw [← hE1, List.length_append, lp_len]; omega
            have hl2 : E2.length ≤ 900 := by rw [← hE2, List.length_append, lp_len]; omega
            have HE1 := Lib.hid hE1
            have HE2 := Lib.hid hE2
            have HE3 := Lib.hid hE3
            clear hE1 hE2 hE3
            go_wp2_with (first
              | (go_at_call_of 116 A1; refine (lengthAnd_ok _ A1 xn a1 ?hx (by unfold big; omega)).mono ?_; (case hx => exact Hs1.out.bbelow ((Below.refl _ _).alloc (Nat.le_refl _) _)); rintro e w3 ⟨N, nc, rfl, ns, hb3⟩; have hk3 : Below (wr.heap.size + 1) (wr.alloc (.cells #[.slice A1 xn.length a1, .slice B1 xk.length b1, .bool false, .slice C1 xv.length c1] 94)) w3 := hb3.mono (by simp); obtain ⟨qx, qb, qz⟩ := Hbox.out _ hk3; obtain ⟨q0, q1, q2, q3, _⟩ := box4 qx; have Ns := Lib.hid ns; have Hk3 := Lib.hid hk3; have Qb := Lib.hid qb; clear ns qx hk3 qb hb3)
              | (go_at_call_of 116 B1; clear q0 q1 q2 q3; refine (lengthAnd_ok _ B1 xk b1 (Hs2.out.bbelow Qb.out) (by unfold big; omega)).mono ?_; rintro e w4 ⟨M, mc, rfl, ms, hb4⟩; have hk4 := Hk3.out.next hb4 qz; obtain ⟨qx, qb, qz'⟩ := Hbox.out _ hk4; obtain ⟨q0, q1, q2, q3, _⟩ := box4 qx; have Ms := Lib.hid ms; have Hk4 := Lib.hid hk4; have Qb4 := Lib.hid qb; have Hb4 := Lib.hid hb4; clear ms qx hk4 qb hb4)
              | (go_at_call_of 116 C1; clear q0 q1 q2 q3; refine (lengthAnd_ok _ C1 xv c1 (Hs3.out.bbelow Qb4.out) (by unfold big; omega)).mono ?_; rintro e w5 ⟨O, oc, rfl, os, hb5⟩; have hk5 := Hk4.out.next hb5 qz'; obtain ⟨qx, qb, qz5⟩ := Hbox.out _ hk5; obtain ⟨q0, q1, q2, q3, _⟩ := box4 qx; have Os := Lib.hid os; have Qb5 := Lib.hid qb; have Hb5 := Lib.hid hb5; clear os qx hk5 qb hb5)
              | (go_at_call 90; (with_reducible refine (joined_eq _ D N E (lpS xn) cd nc HE1.out rfl rfl ?hx ?hy (by unfold big; simp only [lp_len, List.length_singleton]; omega)).mono ?_); (case hx => (exact (Hd.out.bz.bbelow Qb5.out))); (case hy => (exact ((Ns.out.bz.bbelow Hb4.out).bbelow Hb5.out))); rintro e w6 ⟨J1, j1, rfl, gs1, hb6⟩; have Gs1 := Lib.hid gs1; have Hb6 := Lib.hid hb6; clear gs1)
              | (go_at_call 90; (with_reducible refine (joined_eq _ J1 M E1 (lpS xk) j1 mc HE2.out rfl rfl ?hx ?hy (by unfold big; simp only [lp_len, List.length_singleton]; omega)).mono ?_); (case hx => (exact Gs1.out.bz)); (case hy => (exact ((Ms.out.bz.bbelow Hb5.out)).bbelow Hb6.out)); rintro e w7 ⟨J2, j2, rfl, gs2, hb7⟩; have Gs2 := Lib.hid gs2; have Hb7 := Lib.hid hb7; clear gs2)
              | (go_at_call 90; (with_reducible refine (joined_eq _ J2 O E2 (lpS xv) j2 oc HE3.out rfl rfl ?hx ?hy (by unfold big; simp only [lp_len, List.length_singleton]; omega)).mono ?_); (case hx => (exact Gs2.out.bz)); (case hy => (exact (Os.out.bz.bbelow Hb6.out).bbelow Hb7.out)); rintro e w8 ⟨J3, j3, rfl, gs3, hb8⟩; have Gs3 := Lib.hid gs3; have Hb8 := Lib.hid hb8; clear gs3))
            go_roundw
            case rel =>
              have hq5 := Qb5.out
              have hz6 := Hb6.out.size
              have hz7 := Hb7.out.size
              try simp at hz6
              have hq6 : Below wr.heap.size wr w6 := hq5.next Hb6.out (by omega)
              have hq8 : Below wr.heap.size wr w8 := (hq6.next Hb7.out (by omega)).next Hb8.out (by omega)
              exact ⟨k + 1, J3, j3, by omega, by rw [Hnx.out, show (E ++ wrBytes ⟨xn, xk, false, xv⟩) = E3 by rw [← HE3.out, ← HE2.out, ← HE1.out]; simp [wrBytes]], by rw [Hnx.out, show (E ++ wrBytes ⟨xn, xk, false, xv⟩) = E3 by rw [← HE3.out, ← HE2.out, ← HE1.out]; simp [wrBytes]]; exact Gs3.out.blo (by omega), by go_num, Hbel.out.next hq8 hbz⟩
            case measure => simp [intOf]; omega
      · obtain rfl : k = l.length := by omega
        go_wp2
        go_ret2
        rw [Hv.out]
        exact ⟨D, cd, rfl, Hd.out, Hbw.out⟩
  · exact commitBytes_bad w A t l n Ha.out hn h1
theorem commitBytes_any (w : World) (A : Option Addr) (t : Int) (l : List Wr) (n : Nat) (ha : Ws All w A l) (hn : l.length * 80 ≤ 140737488355328) :
    Calls Try.prog 52 #[.agg #[.int .i64 t, .slice A l.length n]] w (RetBE w (encS (t, l))) := by
  by_cases h : commitFaultS (t, l) = 0
  · have h1 := (cm_fine h).1
    dsimp only at h1
    obtain ⟨m, rfl⟩ := Int.eq_ofNat_of_zero_le (show 0 ≤ t by omega)
    exact commitBytes_ok w A m l n ha hn
  · exact commitBytes_bad w A t l n ha hn h
end Go.Proofs.Ythhcdibimnifaaa
