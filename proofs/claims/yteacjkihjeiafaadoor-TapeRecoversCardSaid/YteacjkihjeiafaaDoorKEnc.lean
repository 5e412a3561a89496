/- Enc: Bytes behind their length. Walks: CommitBytes and tape.Encode; the law TapeEncodes. Walk: tape.Encode; the law TapeEncodes. Walk of the law TapeEncodes. The conditions of each are in its words. -/
import Derived.Test.YteacjkihjeiafaaDoorKBase
import Derived.Test.YteacjkihjeiafaaDoorKCommit
namespace Go.Proofs.YteacjkihjeiafaaDoor
set_option linter.unusedVariables false
set_option linter.unusedSimpArgs false
end Go.Proofs.YteacjkihjeiafaaDoor
namespace Go.Proofs.YteacjkihjeiafaaDoor
open Go.RowKit
set_option linter.unusedVariables false
set_option linter.unusedSimpArgs false

/-- A write as bytes. -/
def wrBytes (x : Wr) : List UInt8 := lpS x.name ++ (lpS x.key ++ (if x.flag = true then [255] else lpS x.value))
def headS (c : Cm) : List UInt8 := [UInt8.ofNat (c.1.toNat / 65536), UInt8.ofNat (c.1.toNat / 256), UInt8.ofNat c.1.toNat, UInt8.ofNat c.2.length]
/-- What is written behind so many writes. -/
def encTo (c : Cm) (k : Nat) : List UInt8 := headS c ++ ((c.2.take k).map wrBytes).flatten
theorem encTo_next {c : Cm} {k : Nat} (h : k < c.2.length) : encTo c (k + 1) = encTo c k ++ wrBytes c.2[k] := by
  unfold encTo
  rw [take_snoc _ _ h, List.map_append, List.flatten_append]
  simp
theorem encTo_zero (c : Cm) : encTo c 0 = headS c := by simp [encTo]
/-- What Encode and CommitBytes answer. -/
def encS (c : Cm) : List UInt8 × Int := if commitFaultS c ≠ 0 then ([], commitFaultS c) else (encTo c c.2.length, 0)
theorem keyFine {k : List UInt8} (h : keyFault k = 0) : k.length ≤ 16 := by
  unfold keyFault at h
  split at h
  · omega
  · cases h
theorem wrFine {x : Wr} (h : writeFaultS x = 0) : x.name.length ≤ 8 ∧ x.key.length ≤ 16 ∧ x.value.length ≤ 32 := by
  unfold writeFaultS at h
  by_cases h1 : nameFault x.name = 0
  · rw [if_neg (by simpa using h1)] at h
    refine ⟨?_, ?_⟩
    · unfold nameFault at h1
      split at h1
      · omega
      · cases h1
    · split at h
      · split at h
        · rename_i hk; exact absurd h hk
        · rename_i hk
          split at h
          · cases h
          · exact ⟨keyFine (by simpa using hk), by omega⟩
      · unfold pairFaultS at h
        dsimp only at h
        split at h
        · cases h
        · exact ⟨keyFine h, by omega⟩
  · rw [if_pos h1] at h
    exact absurd h h1
theorem cm_fine {c : Cm} (h : commitFaultS c = 0) : (1 ≤ c.1 ∧ c.1 ≤ 1048576) ∧ c.2.length ≤ 10 ∧ ∀ i (hi : i < c.2.length), writeFaultS c.2[i] = 0 := by
  unfold commitFaultS at h
  by_cases h1 : 1 ≤ c.1 ∧ c.1 ≤ 1048576
  · rw [if_neg (by simpa using h1)] at h
    split at h
    · cases h
    · have hz := firstBad_zero _ _ h
      have hl : c.2.length ≤ 10 := by
        rcases Nat.lt_or_ge 10 c.2.length with h2 | h2
        · have := hz 10 h2
          rw [Nat.zero_add, cwAt_high (Nat.le_refl _)] at this
          cases this
        · exact h2
      refine ⟨h1, hl, fun i hi => ?_⟩
      have := hz i hi
      rw [Nat.zero_add, cwAt_low hi (by omega)] at this
      exact this
  · rw [if_pos h1] at h
    cases h
theorem wrBytes_len {x : Wr} (h : writeFaultS x = 0) : (wrBytes x).length ≤ 59 := by
  obtain ⟨h1, h2, h3⟩ := wrFine h
  unfold wrBytes
  split
  · simp [lpS]; omega
  · simp [lpS]; omega
theorem encTo_len {c : Cm} (h : commitFaultS c = 0) : ∀ k, k ≤ c.2.length → (encTo c k).length ≤ 4 + k * 59 := by
  intro k
  induction k with
  | zero => intro _; rw [encTo_zero]; simp [headS]
  | succ k ih =>
    intro hk
    rw [encTo_next (by omega), List.length_append]
    have := ih (by omega)
    have := wrBytes_len ((cm_fine h).2.2 k (by omega))
    omega
/-- The call returns bytes and a number. -/
def RetBE (w : World) (r : List UInt8 × Int) (e : Ending) (w' : World) : Prop :=
  ∃ A c, e = .returned (.tuple #[.slice A r.1.length c, .int .i64 r.2]) ∧ Bs (From w.heap.size) w' A r.1 ∧ Below w.heap.size w w'
theorem joined_eq {r : List UInt8} {na nb : Nat} (w : World) (A B : Option Addr) (a b : List UInt8) (c d : Nat) (hr : a ++ b = r) (hna : na = a.length) (hnb : nb = b.length) (ha : Bs All w A a) (hb : Bs All w B b) (hn : a.length + b.length ≤ big) :
    Calls Tryd.prog 55 #[.slice A na c, .slice B nb d] w (RetBs w r) := by
  subst hr hna hnb
  exact joined_ok w A B a b c d ha hb hn
theorem u8_of (n : Nat) : ((UInt8.ofNat n).toNat : Int) = ((n % 256 : Nat) : Int) := by simp
set_option maxRecDepth 100000 in
set_option maxHeartbeats 1000000 in
theorem commitBytes_bad (w : World) (A : Option Addr) (t : Int) (l : List Wr) (n : Nat) (ha : Ws All w A l) (hn : l.length * 80 ≤ 140737488355328) (h1 : commitFaultS (t, l) ≠ 0) :
    Calls Tryd.prog 54 #[.agg #[.int .i64 t, .slice A l.length n]] w (RetBE w (encS (t, l))) := by
  have Ha := Lib.hid ha
  clear ha
  have b1 : (commitFaultS (t, l) != 0) = true := by simpa using h1
  have Hv := Lib.hid (show encS (t, l) = ([], commitFaultS (t, l)) by unfold encS; rw [if_pos h1])
  clear h1
  go_enter Tryd.func54, Tryd.ntmps54
  go_wp2_with (go_at_call 92; refine (commitFault_ok _ A t l n (Ha.out.below wrR_stays ?_) hn).mono ?_; (repeat' (first | exact Below.refl _ _ | assumption | refine Below.drew ?_ | refine below_drewN ?_ _ | refine Below.alloc ?_ (by first | exact Nat.le_refl _ | omega | (simp; done) | (simp; omega)) _)); rintro e w1 ⟨rfl, hb1⟩)
  go_ret2
  rw [Hv.out]
  exact ⟨none, 0, rfl, SL.nil, Below.next ((Below.refl _ _).alloc (Nat.le_refl _) _) hb1 (by simp)⟩
set_option maxRecDepth 100000 in
set_option maxHeartbeats 2000000 in
theorem commitBytes_ok (w : World) (A : Option Addr) (t : Nat) (l : List Wr) (n : Nat) (ha : Ws All w A l) (hn : l.length * 80 ≤ 140737488355328) :
    Calls Tryd.prog 54 #[.agg #[.int .i64 (t : Int), .slice A l.length n]] w (RetBE w (encS ((t : Int), l))) := by
  have Ha := Lib.hid ha
  clear ha
  by_cases h1 : commitFaultS ((t : Int), l) = 0
  · have bc : (commitFaultS ((t : Int), l) != 0) = false := by simp [h1]
    have Hv := Lib.hid (show encS ((t : Int), l) = (encTo ((t : Int), l) l.length, 0) by unfold encS; rw [if_neg (by simpa using h1)])
    obtain ⟨⟨hf1, hf2⟩, hf3, hf4⟩ := cm_fine h1
    have Hlen := Lib.hid (encTo_len h1)
    have Hwl := Lib.hid (fun i hi => wrFine (hf4 i hi))
    dsimp only at hf1 hf2 hf3
    have Hbx := Lib.hid (box_new w #[.int .i64 (t : Int), .slice A l.length n] 48)
    have Hb0 := Lib.hid (show Below w.heap.size w (w.alloc (.cells #[.int .i64 (t : Int), .slice A l.length n] 48)) from (Below.refl _ _).alloc (Nat.le_refl _) _)
    have Hhd := Lib.hid (show (#[.int .u8 ((t : Int) / 65536), .int .u8 ((t : Int) / 256 % 256), .int .u8 ((t : Int) % 256), .int .u8 (l.length : Int)] : Array Value) = ((headS ((t : Int), l)).map bv).toArray by simp [headS, bv]; omega)
    clear h1 hf4
    go_enter Tryd.func54, Tryd.ntmps54
    go_wp2_with (go_at_call 92; refine (commitFault_ok _ A (t : Int) l n (Ha.out.below wrR_stays ?_) hn).mono ?_; (repeat' (first | exact Below.refl _ _ | assumption | refine Below.drew ?_ | refine below_drewN ?_ _ | refine Below.alloc ?_ (by first | exact Nat.le_refl _ | omega | (simp; done) | (simp; omega)) _)); rintro e w1 ⟨rfl, hb1⟩; have hbw1 := Hb0.out.next hb1 (by simp); have Hbx1 := Lib.hid ((hb1.block _ (by simp)).trans Hbx.out); have hz1 : w.heap.size < w1.heap.size := (by have := hb1.size; simp at this; omega); obtain ⟨g0, g1, _, _⟩ := box2 Hbx1.out)
    generalize hW : w1.alloc _ = w2
    have hx2 : w2.heap[w1.heap.size]? = some (.cells ((headS ((t : Int), l)).map bv).toArray 5 (0, 0)) := by rw [← hW, ← Hhd.out]; exact box_new w1 _ _
    have Hb12 := Lib.hid (show Below w1.heap.size w1 w2 by rw [← hW]; exact (Below.refl _ _).alloc (Nat.le_refl _) _)
    have hz2 : w2.heap.size = w1.heap.size + 1 := by rw [← hW]; simp
    clear hW
    have Hx2 := Lib.hid hx2
    have Hbw1 := Lib.hid hbw1
    clear hx2 Hhd g0 g1 hb1 hbw1
    go_loopw [5, 6] (fun v i wr => ∃ (k : Nat) (D : Option Addr) (cd : Nat), k ≤ l.length ∧ v = .slice D (encTo ((t : Int), l) k).length cd ∧ Bs (From w.heap.size) wr D (encTo ((t : Int), l) k) ∧ i = .int .i64 k ∧ Below w2.heap.size w2 wr) (fun _ i _ => l.length - (intOf i).toNat)
    case atStart => exact ⟨0, _, _, by omega, by rw [encTo_zero]; rfl, by rw [encTo_zero]; exact bs_block Hx2.out (by simp only [From]; omega), rfl, Below.refl _ _⟩
    case round =>
      obtain ⟨k, D, cd, hk, rfl, hd, rfl, hbel⟩ := hrel
      have Hbel := Lib.hid hbel
      have Hd := Lib.hid hd
      have hbz := hbel.size
      have Hb2 := Lib.hid (Hb12.out.next hbel (by omega))
      obtain ⟨g0, g1, _, _⟩ := box2 ((Hb2.out.block _ hz1).trans Hbx1.out)
      have Hbw := Lib.hid (Hbw1.out.next Hb2.out (by omega))
      clear hbel hd
      by_cases hlt : k < l.length
      · have Hnx := Lib.hid (encTo_next (c := ((t : Int), l)) hlt)
        have hel := Hlen.out k (by omega)
        obtain ⟨g, off, A1, a1, B1, b1, C1, c1, rfl, _, hal, hc1, hc2, hc3, hc4, hs1, hs2, hs3, _, _, _⟩ := wrs_at (Ha.out.below wrR_stays Hbw.out) hlt
        obtain ⟨y1, y2, y3⟩ := Hwl.out k hlt
        dsimp only at Hnx
        have Hs1 := Lib.hid hs1.bz
        have Hs2 := Lib.hid hs2.bz
        have Hs3 := Lib.hid hs3.bz
        clear hs1 hs2 hs3
        generalize l[k] = x at *
        generalize encTo ((t : Int), l) k = E at *
        obtain ⟨xn, xk, xf, xv⟩ := x
        dsimp only at *
        cases xf with
        | true =>
            have Hbox := Lib.hid (show ∀ W, Below (wr.heap.size + 1) (wr.alloc (.cells #[.slice A1 xn.length a1, .slice B1 xk.length b1, .bool true, .slice C1 xv.length c1] 117)) W → W.heap[wr.heap.size]? = some (.cells #[.slice A1 xn.length a1, .slice B1 xk.length b1, .bool true, .slice C1 xv.length c1] 117 (0, 0)) ∧ Below wr.heap.size wr W ∧ wr.heap.size + 1 ≤ W.heap.size from fun W hW =>
              ⟨(hW.block _ (by omega)).trans (box_new wr _ _), ((Below.refl wr.heap.size wr).alloc (Nat.le_refl _) _).trans (hW.mono (by omega)), by simpa using hW.size⟩)
            obtain ⟨E1, hE1⟩ : ∃ E1, E ++ lpS xn = E1 := ⟨_, rfl⟩
            obtain ⟨E2, hE2⟩ : ∃ E2, E1 ++ lpS xk = E2 := ⟨_, rfl⟩
            obtain ⟨E3, hE3⟩ : ∃ E3, E2 ++ [255] = E3 := ⟨_, rfl⟩
            have hl1 : E1.length ≤ 800 := by rw [← hE1, List.length_append, lp_len]; omega
            have hl2 : E2.length ≤ 900 := by rw [← hE2, List.length_append, lp_len]; omega
            have HE1 := Lib.hid hE1
            have HE2 := Lib.hid hE2
            have HE3 := Lib.hid hE3
            clear hE1 hE2 hE3
            go_wp2_with (first
              | (go_at_call_of 93 A1; refine (lengthAnd_ok _ A1 xn a1 ?hx (by unfold big; omega)).mono ?_; (case hx => exact Hs1.out.bbelow ((Below.refl _ _).alloc (Nat.le_refl _) _)); rintro e w3 ⟨N, nc, rfl, ns, hb3⟩; have hk3 : Below (wr.heap.size + 1) (wr.alloc (.cells #[.slice A1 xn.length a1, .slice B1 xk.length b1, .bool true, .slice C1 xv.length c1] 117)) w3 := hb3.mono (by simp); obtain ⟨qx, qb, qz⟩ := Hbox.out _ hk3; obtain ⟨q0, q1, q2, q3, _⟩ := box4 qx; have Ns := Lib.hid ns; have Hk3 := Lib.hid hk3; have Qb := Lib.hid qb; clear ns qx hk3 qb hb3)
              | (go_at_call_of 93 B1; clear q0 q1 q2 q3; refine (lengthAnd_ok _ B1 xk b1 (Hs2.out.bbelow Qb.out) (by unfold big; omega)).mono ?_; rintro e w4 ⟨M, mc, rfl, ms, hb4⟩; have hk4 := Hk3.out.next hb4 qz; obtain ⟨qx, qb, qz'⟩ := Hbox.out _ hk4; obtain ⟨q0, q1, q2, q3, _⟩ := box4 qx; have Ms := Lib.hid ms; have Hk4 := Lib.hid hk4; have Qb4 := Lib.hid qb; have Hb4 := Lib.hid hb4; clear ms qx hk4 qb hb4)
              | (go_at_call_of 93 C1; clear q0 q1 q2 q3; refine (lengthAnd_ok _ C1 xv c1 (Hs3.out.bbelow Qb4.out) (by unfold big; omega)).mono ?_; rintro e w5 ⟨O, oc, rfl, os, hb5⟩; have hk5 := Hk4.out.next hb5 qz'; obtain ⟨qx, qb, qz5⟩ := Hbox.out _ hk5; obtain ⟨q0, q1, q2, q3, _⟩ := box4 qx; have Os := Lib.hid os; have Qb5 := Lib.hid qb; have Hb5 := Lib.hid hb5; clear os qx hk5 qb hb5)
              | (go_at_call 55; (with_reducible refine (joined_eq _ D N E (lpS xn) cd nc HE1.out rfl rfl ?hx ?hy (by unfold big; simp only [lp_len, List.length_singleton]; omega)).mono ?_); (case hx => (exact (Hd.out.bz.bbelow Qb5.out).bbelow ((Below.refl _ _).alloc (Nat.le_refl _) _))); (case hy => (exact ((Ns.out.bz.bbelow Hb4.out).bbelow Hb5.out).bbelow ((Below.refl _ _).alloc (Nat.le_refl _) _))); rintro e w6 ⟨J1, j1, rfl, gs1, hb6⟩; have Gs1 := Lib.hid gs1; have Hb6 := Lib.hid hb6; clear gs1)
              | (go_at_call 55; (with_reducible refine (joined_eq _ J1 M E1 (lpS xk) j1 mc HE2.out rfl rfl ?hx ?hy (by unfold big; simp only [lp_len, List.length_singleton]; omega)).mono ?_); (case hx => (exact Gs1.out.bz)); (case hy => (exact ((Ms.out.bz.bbelow Hb5.out).bbelow ((Below.refl _ _).alloc (Nat.le_refl _) _)).bbelow Hb6.out)); rintro e w7 ⟨J2, j2, rfl, gs2, hb7⟩; have Gs2 := Lib.hid gs2; have Hb7 := Lib.hid hb7; clear gs2)
              | (go_at_call 55; (with_reducible refine (joined_eq _ J2 (some ⟨w5.heap.size, 0, none⟩) E2 [255] j2 1 HE3.out rfl ?hnb ?hx ?hy (by unfold big; simp only [lp_len, List.length_singleton]; omega)).mono ?_); (case hnb => rfl); (case hx => (exact Gs2.out.bz)); (case hy => (exact ((bs_block (l := [255]) (box_new w5 _ _) trivial).bbelow Hb6.out).bbelow Hb7.out)); rintro e w8 ⟨J3, j3, rfl, gs3, hb8⟩; have Gs3 := Lib.hid gs3; have Hb8 := Lib.hid hb8; clear gs3))
            go_roundw
            case rel =>
              have hq5 := Qb5.out
              have hz6 := Hb6.out.size
              have hz7 := Hb7.out.size
              try simp at hz6
              have hq6 : Below wr.heap.size wr w6 := (hq5.alloc (by omega) _).next Hb6.out (by simp; omega)
              have hq8 : Below wr.heap.size wr w8 := (hq6.next Hb7.out (by omega)).next Hb8.out (by omega)
              exact ⟨k + 1, J3, j3, by omega, by rw [Hnx.out, show (E ++ wrBytes ⟨xn, xk, true, xv⟩) = E3 by rw [← HE3.out, ← HE2.out, ← HE1.out]; simp [wrBytes]], by rw [Hnx.out, show (E ++ wrBytes ⟨xn, xk, true, xv⟩) = E3 by rw [← HE3.out, ← HE2.out, ← HE1.out]; simp [wrBytes]]; exact Gs3.out.blo (by omega), by go_num, Hbel.out.next hq8 hbz⟩
            case measure => simp [intOf]; omega
        | false =>
            have Hbox := Lib.hid (show ∀ W, Below (wr.heap.size + 1) (wr.alloc (.cells #[.slice A1 xn.length a1, .slice B1 xk.length b1, .bool false, .slice C1 xv.length c1] 117)) W → W.heap[wr.heap.size]? = some (.cells #[.slice A1 xn.length a1, .slice B1 xk.length b1, .bool false, .slice C1 xv.length c1] 117 (0, 0)) ∧ Below wr.heap.size wr W ∧ wr.heap.size + 1 ≤ W.heap.size from fun W hW =>
              ⟨(hW.block _ (by omega)).trans (box_new wr _ _), ((Below.refl wr.heap.size wr).alloc (Nat.le_refl _) _).trans (hW.mono (by omega)), by simpa using hW.size⟩)
            obtain ⟨E1, hE1⟩ : ∃ E1, E ++ lpS xn = E1 := ⟨_, rfl⟩
            obtain ⟨E2, hE2⟩ : ∃ E2, E1 ++ lpS xk = E2 := ⟨_, rfl⟩
            obtain ⟨E3, hE3⟩ : ∃ E3, E2 ++ lpS xv = E3 := ⟨_, rfl⟩
            have hl1 : E1.length ≤ 800 := by rw [← hE1, List.length_append, lp_len]; omega
            have hl2 : E2.length ≤ 900 := by rw [← hE2, List.length_append, lp_len]; omega
            have HE1 := Lib.hid hE1
            have HE2 := Lib.hid hE2
            have HE3 := Lib.hid hE3
            clear hE1 hE2 hE3
            go_wp2_with (first
              | (go_at_call_of 93 A1; refine (lengthAnd_ok _ A1 xn a1 ?hx (by unfold big; omega)).mono ?_; (case hx => exact Hs1.out.bbelow ((Below.refl _ _).alloc (Nat.le_refl _) _)); rintro e w3 ⟨N, nc, rfl, ns, hb3⟩; have hk3 : Below (wr.heap.size + 1) (wr.alloc (.cells #[.slice A1 xn.length a1, .slice B1 xk.length b1, .bool false, .slice C1 xv.length c1] 117)) w3 := hb3.mono (by simp); obtain ⟨qx, qb, qz⟩ := Hbox.out _ hk3; obtain ⟨q0, q1, q2, q3, _⟩ := box4 qx; have Ns := Lib.hid ns; have Hk3 := Lib.hid hk3; have Qb := Lib.hid qb; clear ns qx hk3 qb hb3)
              | (go_at_call_of 93 B1; clear q0 q1 q2 q3; refine (lengthAnd_ok _ B1 xk b1 (Hs2.out.bbelow Qb.out) (by unfold big; omega)).mono ?_; rintro e w4 ⟨M, mc, rfl, ms, hb4⟩; have hk4 := Hk3.out.next hb4 qz; obtain ⟨qx, qb, qz'⟩ := Hbox.out _ hk4; obtain ⟨q0, q1, q2, q3, _⟩ := box4 qx; have Ms := Lib.hid ms; have Hk4 := Lib.hid hk4; have Qb4 := Lib.hid qb; have Hb4 := Lib.hid hb4; clear ms qx hk4 qb hb4)
              | (go_at_call_of 93 C1; clear q0 q1 q2 q3; refine (lengthAnd_ok _ C1 xv c1 (Hs3.out.bbelow Qb4.out) (by unfold big; omega)).mono ?_; rintro e w5 ⟨O, oc, rfl, os, hb5⟩; have hk5 := Hk4.out.next hb5 qz'; obtain ⟨qx, qb, qz5⟩ := Hbox.out _ hk5; obtain ⟨q0, q1, q2, q3, _⟩ := box4 qx; have Os := Lib.hid os; have Qb5 := Lib.hid qb; have Hb5 := Lib.hid hb5; clear os qx hk5 qb hb5)
              | (go_at_call 55; (with_reducible refine (joined_eq _ D N E (lpS xn) cd nc HE1.out rfl rfl ?hx ?hy (by unfold big; simp only [lp_len, List.length_singleton]; omega)).mono ?_); (case hx => (exact (Hd.out.bz.bbelow Qb5.out))); (case hy => (exact ((Ns.out.bz.bbelow Hb4.out).bbelow Hb5.out))); rintro e w6 ⟨J1, j1, rfl, gs1, hb6⟩; have Gs1 := Lib.hid gs1; have Hb6 := Lib.hid hb6; clear gs1)
              | (go_at_call 55; (with_reducible refine (joined_eq _ J1 M E1 (lpS xk) j1 mc HE2.out rfl rfl ?hx ?hy (by unfold big; simp only [lp_len, List.length_singleton]; omega)).mono ?_); (case hx => (exact Gs1.out.bz)); (case hy => (exact ((Ms.out.bz.bbelow Hb5.out)).bbelow Hb6.out)); rintro e w7 ⟨J2, j2, rfl, gs2, hb7⟩; have Gs2 := Lib.hid gs2; have Hb7 := Lib.hid hb7; clear gs2)
              | (go_at_call 55; (with_reducible refine (joined_eq _ J2 O E2 (lpS xv) j2 oc HE3.out rfl rfl ?hx ?hy (by unfold big; simp only [lp_len, List.length_singleton]; omega)).mono ?_); (case hx => (exact Gs2.out.bz)); (case hy => (exact (Os.out.bz.bbelow Hb6.out).bbelow Hb7.out)); rintro e w8 ⟨J3, j3, rfl, gs3, hb8⟩; have Gs3 := Lib.hid gs3; have Hb8 := Lib.hid hb8; clear gs3))
            go_roundw
            case rel =>
              have hq5 := Qb5.out
              have hz6 := Hb6.out.size
              have hz7 := Hb7.out.size
              try simp at hz6
              have hq6 : Below wr.heap.size wr w6 := hq5.next Hb6.out (by omega)
              have hq8 : Below wr.heap.size wr w8 := (hq6.next Hb7.out (by omega)).next Hb8.out (by omega)
              exact ⟨k + 1, J3, j3, by omega, by rw [Hnx.out, show (E ++ wrBytes ⟨xn, xk, false, xv⟩) = E3 by rw [← HE3.out, ← HE2.out, ← HE1.out]; simp [wrBytes]], by rw [Hnx.out, show (E ++ wrBytes ⟨xn, xk, false, xv⟩) = E3 by rw [← HE3.out, ← HE2.out, ← HE1.out]; simp [wrBytes]]; exact Gs3.out.blo (by omega), by go_num, Hbel.out.next hq8 hbz⟩
            case measure => simp [intOf]; omega
      · obtain rfl : k = l.length := by omega
        go_wp2
        go_ret2
        rw [Hv.out]
        exact ⟨D, cd, rfl, Hd.out, Hbw.out⟩
  · exact commitBytes_bad w A t l n Ha.out hn h1
theorem commitBytes_any (w : World) (A : Option Addr) (t : Int) (l : List Wr) (n : Nat) (ha : Ws All w A l) (hn : l.length * 80 ≤ 140737488355328) :
    Calls Tryd.prog 54 #[.agg #[.int .i64 t, .slice A l.length n]] w (RetBE w (encS (t, l))) := by
  by_cases h : commitFaultS (t, l) = 0
  · have h1 := (cm_fine h).1
    dsimp only at h1
    obtain ⟨m, rfl⟩ := Int.eq_ofNat_of_zero_le (show 0 ≤ t by omega)
    exact commitBytes_ok w A m l n ha hn
  · exact commitBytes_bad w A t l n ha hn h
end Go.Proofs.YteacjkihjeiafaaDoor
namespace Go.Proofs.YteacjkihjeiafaaDoor
open Go.RowKit
set_option linter.unusedVariables false
set_option linter.unusedSimpArgs false

theorem own_block {w : World} {base g : Nat} {l : List UInt8} (h : w.heap[g]? = some (.cells (l.map bv).toArray 5 (0, 0))) (hb : base ≤ g) (hm : l.length ≤ maxLen) :
    w.ownsRow base 5 1 (.slice (some ⟨g, 0, none⟩) l.length l.length) l.length (l.map bv) :=
  ⟨by simp, .inr ⟨g, l.length, _, rfl, hb, h, Nat.le_refl _, hm, by simp, by rw [Nat.mul_one]; exact List.take_of_length_le (by simp)⟩⟩
set_option maxRecDepth 100000 in
set_option maxHeartbeats 4000000 in
theorem encode_ok (w : World) (A : Option Addr) (t : Nat) (l : List Wr) (n : Nat) (ha : Ws All w A l) (hn : l.length * 80 ≤ 140737488355328) (h1 : commitFaultS ((t : Int), l) = 0) :
    Calls Tryd.prog 50 #[.agg #[.int .i64 (t : Int), .slice A l.length n]] w (RetBE w (encS ((t : Int), l))) := by
  have Ha := Lib.hid ha
  clear ha
  obtain ⟨i0, hi0, hz0, hz1', hz2'⟩ := info_parts info_u8
  have bc : (commitFaultS ((t : Int), l) != 0) = false := by simp [h1]
  have Hv := Lib.hid (show encS ((t : Int), l) = (encTo ((t : Int), l) l.length, 0) by unfold encS; rw [if_neg (by simpa using h1)])
  obtain ⟨⟨hf1, hf2⟩, hf3, hf4⟩ := cm_fine h1
  have Hlen := Lib.hid (encTo_len h1)
  have Hwl := Lib.hid (fun i hi => wrFine (hf4 i hi))
  dsimp only at hf1 hf2 hf3
  have Hbx := Lib.hid (box_new w #[.int .i64 (t : Int), .slice A l.length n] 48)
  have Hb0 := Lib.hid (show Below w.heap.size w (w.alloc (.cells #[.int .i64 (t : Int), .slice A l.length n] 48)) from (Below.refl _ _).alloc (Nat.le_refl _) _)
  have Hhd := Lib.hid (show (#[.int .u8 ((t : Int) / 65536), .int .u8 ((t : Int) / 256 % 256), .int .u8 ((t : Int) % 256), .int .u8 (l.length : Int)] : Array Value) = ((headS ((t : Int), l)).map bv).toArray by simp [headS, bv]; omega)
  clear h1 hf4
  go_enter Tryd.func50, Tryd.ntmps50
  go_wp2_with (go_at_call 88; refine (tapeCheck_ok _ A (t : Int) l n (Ha.out.below wrR_stays ?_) hn).mono ?_; (repeat' (first | exact Below.refl _ _ | assumption | refine Below.drew ?_ | refine below_drewN ?_ _ | refine Below.alloc ?_ (by first | exact Nat.le_refl _ | omega | (simp; done) | (simp; omega)) _)); rintro e w1 ⟨rfl, hb1⟩; have hbw1 := Hb0.out.next hb1 (by simp); have Hbx1 := Lib.hid ((hb1.block _ (by simp)).trans Hbx.out); have hz1 : w.heap.size < w1.heap.size := (by have := hb1.size; simp at this; omega); obtain ⟨g0, g1, _, _⟩ := box2 Hbx1.out)
  generalize hW : w1.alloc _ = w2
  have hx2 : w2.heap[w1.heap.size]? = some (.cells ((headS ((t : Int), l)).map bv).toArray 5 (0, 0)) := by rw [← hW, ← Hhd.out]; exact box_new w1 _ _
  have Hb12 := Lib.hid (show Below w1.heap.size w1 w2 by rw [← hW]; exact (Below.refl _ _).alloc (Nat.le_refl _) _)
  have hz2 : w2.heap.size = w1.heap.size + 1 := by rw [← hW]; simp
  clear hW
  have Hx2 := Lib.hid hx2
  have Hbw1 := Lib.hid hbw1
  clear hx2 Hhd g0 g1 hb1 hbw1
  go_loopw [5, 32] (fun v' i wr => ∃ (k : Nat) (v : Value), k ≤ l.length ∧ i = .int .i64 k ∧ v' = v ∧ wr.ownsRow w1.heap.size 5 1 v (encTo ((t : Int), l) k).length ((encTo ((t : Int), l) k).map bv) ∧ Below w1.heap.size w2 wr) (fun _ i _ => l.length - (intOf i).toNat)
  case atStart => exact ⟨0, _, by omega, rfl, rfl, by rw [encTo_zero]; exact own_block Hx2.out (Nat.le_refl _) (by simp [headS, maxLen]), Below.refl _ _⟩
  case round =>
    obtain ⟨k, v, hk, rfl, rfl, hown, hbel⟩ := hrel
    have hap : u5.ownBlock ≠ some wr.heap.size := fun hv => by have := (hown.lt _ hv).2; omega
    have Hbel := Lib.hid hbel
    have hbz := hbel.size
    have Hb2 := Lib.hid (Hb12.out.trans hbel)
    have Hbw := Lib.hid (Hbw1.out.next Hb2.out (by omega))
    have Hown := Lib.hid hown
    clear hbel hown
    by_cases hlt : k < l.length
    · have Hnx := Lib.hid (encTo_next (c := ((t : Int), l)) hlt)
      have hel := Hlen.out k (by omega)
      obtain ⟨g, off, A1, a1, B1, b1, C1, c1, rfl, _, hal, hc1, hc2, hc3, hc4, hs1, hs2, hs3, _, _, _⟩ := wrs_at (((Ha.out.below wrR_stays Hbw1.out).low wrR_stays (Nat.le_refl _)).same wrR_stays (Same.of_low Hb2.out)) hlt
      obtain ⟨y1, y2, y3⟩ := Hwl.out k hlt
      dsimp only at Hnx
      have Hs1 := Lib.hid hs1
      have Hs2 := Lib.hid hs2
      have Hs3 := Lib.hid hs3
      clear hs1 hs2 hs3
      generalize l[k] = x at *
      generalize encTo ((t : Int), l) k = E at *
      obtain ⟨xn, xk, xf, xv⟩ := x
      dsimp only at *
      cases xf with
      | true =>
          obtain ⟨E1, hE1⟩ : ∃ E1, E ++ lpS xn = E1 := ⟨_, rfl⟩
          obtain ⟨E2, hE2⟩ : ∃ E2, E1 ++ lpS xk = E2 := ⟨_, rfl⟩
          obtain ⟨E3, hE3⟩ : ∃ E3, E2 ++ [255] = E3 := ⟨_, rfl⟩
          have hl1 : E1.length ≤ 800 := by rw [← hE1, List.length_append, lp_len]; omega
          have hl2 : E2.length ≤ 900 := by rw [← hE2, List.length_append, lp_len]; omega
          have HE1 := Lib.hid hE1
          have HE2 := Lib.hid hE2
          have HE3 := Lib.hid hE3
          clear hE1 hE2 hE3
          go_wp2_with fail
          go_region_held3 (fun w' => w'.cell? ⟨wr.heap.size, 0, none⟩ = some (.slice A1 xn.length a1) ∧ w'.cell? ⟨wr.heap.size, 1, none⟩ = some (.slice B1 xk.length b1) ∧ w'.cell? ⟨wr.heap.size, 2, none⟩ = some (.bool true) ∧ w'.cell? ⟨wr.heap.size, 3, none⟩ = some (.slice C1 xv.length c1))
            (first
              | go_keep
              | exact ⟨q0, q1, q2, q3⟩
              | exact ⟨r0, r1, r2, r3⟩)
            (first
              | (go_at_call 89; (with_reducible refine (part_ok _ w1.heap.size u5 E ?ho A1 xn a1 ?hp ?hb ?hn).mono ?_); (case ho => exact (Hown.out.alloc _)); (case hp => exact (Hs1.out.bsame (Same.of_low (((Below.refl w1.heap.size wr).alloc (by omega) _).drew)))); (case hb => (simp; omega)); (case hn => (unfold big; omega)); rintro e w3 ⟨v3, rfl, hown3, hb3, hs3, hn3⟩; have Hown3 := Lib.hid (show w3.ownsRow w1.heap.size 5 1 v3 E1.length (E1.map bv) by rw [← HE1.out]; exact hown3); have hx3 := (hs3.block wr.heap.size ⟨by simp, hap⟩ (by simp)).trans (box_new wr _ _); obtain ⟨q0, q1, q2, q3, _⟩ := box4 hx3; have hz3 := hb3.size; have Hx3 := Lib.hid hx3; have hz3' : wr.heap.size < w3.heap.size := (by simp at hz3; omega); have Hap3 := Lib.hid (hn3 wr.heap.size (by simp) hap); clear hown3 hx3 hs3 hn3)
              | (go_at_call 89; (with_reducible refine (part_ok _ w1.heap.size v3 E1 Hown3.out B1 xk b1 ?hp ?hb ?hn).mono ?_); (case hp => exact ((Hs2.out.bsame (Same.of_low (((Below.refl w1.heap.size wr).alloc (by omega) _).drew))).bsame (Same.of_low hb3))); (case hb => omega); (case hn => (unfold big; omega)); rintro e w4 ⟨v4, rfl, hown4, hb4, hs4, _⟩; have Hown4 := Lib.hid (show w4.ownsRow w1.heap.size 5 1 v4 E2.length (E2.map bv) by rw [← HE2.out]; exact hown4); have hx4 := (hs4.block wr.heap.size ⟨hz3', Hap3.out⟩ hz3').trans Hx3.out; obtain ⟨r0, r1, r2, r3, _⟩ := box4 hx4; have hz4 := hb4.size; clear hown4 hx4 hs4))
          go_wp2_with (at_builtin; refine wpl_app _ rfl _ _ _ rfl w1.heap.size 5 i0 (.int .u8 0) 1 1 Tryd.underlying22 hi0 hz0 hz1' hz2' rfl (by decide) v4 E2.length (E2.map bv) rfl (Hown4.out.alloc _) (some ⟨w4.heap.size, 0, none⟩) 1 1 [bv 255] rfl rfl (one_src _ _ _) (by simp [bv, Value.oneCell']) (by unfold maxLen; omega) (by omega) (by simp; omega) ?_; intro v5 w5 hown5 hg5 hat5; have Hown5 := Lib.hid (show w5.ownsRow w1.heap.size 5 1 v5 E3.length (E3.map bv) by rw [← HE3.out, List.length_append, List.map_append]; exact hown5); have hb5 : Below w1.heap.size w4 w5 := ((Below.refl _ _).alloc (by omega) _).trans (own_below (Hown4.out.alloc _) hg5 (by simp; omega)))
          go_roundw
          case rel => exact ⟨k + 1, v5, by omega, by go_num, rfl, by rw [Hnx.out, show (E ++ wrBytes ⟨xn, xk, true, xv⟩) = E3 by rw [← HE3.out, ← HE2.out, ← HE1.out]; simp [wrBytes]]; exact Hown5.out, (((Hbel.out.alloc (by omega) _).drew.trans hb3).trans hb4).trans hb5⟩
          case measure => simp [intOf]; omega
      | false =>
          obtain ⟨E1, hE1⟩ : ∃ E1, E ++ lpS xn = E1 := ⟨_, rfl⟩
          obtain ⟨E2, hE2⟩ : ∃ E2, E1 ++ lpS xk = E2 := ⟨_, rfl⟩
          obtain ⟨E3, hE3⟩ : ∃ E3, E2 ++ lpS xv = E3 := ⟨_, rfl⟩
          have hl1 : E1.length ≤ 800 := by rw [← hE1, List.length_append, lp_len]; omega
          have hl2 : E2.length ≤ 900 := by rw [← hE2, List.length_append, lp_len]; omega
          have HE1 := Lib.hid hE1
          have HE2 := Lib.hid hE2
          have HE3 := Lib.hid hE3
          clear hE1 hE2 hE3
          go_wp2_with fail
          go_region_held3 (fun w' => w'.cell? ⟨wr.heap.size, 0, none⟩ = some (.slice A1 xn.length a1) ∧ w'.cell? ⟨wr.heap.size, 1, none⟩ = some (.slice B1 xk.length b1) ∧ w'.cell? ⟨wr.heap.size, 2, none⟩ = some (.bool false) ∧ w'.cell? ⟨wr.heap.size, 3, none⟩ = some (.slice C1 xv.length c1))
            (first
              | go_keep
              | exact ⟨q0, q1, q2, q3⟩
              | exact ⟨r0, r1, r2, r3⟩)
            (first
              | (go_at_call 89; (with_reducible refine (part_ok _ w1.heap.size u5 E ?ho A1 xn a1 ?hp ?hb ?hn).mono ?_); (case ho => exact (Hown.out.alloc _)); (case hp => exact (Hs1.out.bsame (Same.of_low (((Below.refl w1.heap.size wr).alloc (by omega) _).drew)))); (case hb => (simp; omega)); (case hn => (unfold big; omega)); rintro e w3 ⟨v3, rfl, hown3, hb3, hs3, hn3⟩; have Hown3 := Lib.hid (show w3.ownsRow w1.heap.size 5 1 v3 E1.length (E1.map bv) by rw [← HE1.out]; exact hown3); have hx3 := (hs3.block wr.heap.size ⟨by simp, hap⟩ (by simp)).trans (box_new wr _ _); obtain ⟨q0, q1, q2, q3, _⟩ := box4 hx3; have hz3 := hb3.size; have Hx3 := Lib.hid hx3; have hz3' : wr.heap.size < w3.heap.size := (by simp at hz3; omega); have Hap3 := Lib.hid (hn3 wr.heap.size (by simp) hap); clear hown3 hx3 hs3 hn3)
              | (go_at_call 89; (with_reducible refine (part_ok _ w1.heap.size v3 E1 Hown3.out B1 xk b1 ?hp ?hb ?hn).mono ?_); (case hp => exact ((Hs2.out.bsame (Same.of_low (((Below.refl w1.heap.size wr).alloc (by omega) _).drew))).bsame (Same.of_low hb3))); (case hb => omega); (case hn => (unfold big; omega)); rintro e w4 ⟨v4, rfl, hown4, hb4, hs4, _⟩; have Hown4 := Lib.hid (show w4.ownsRow w1.heap.size 5 1 v4 E2.length (E2.map bv) by rw [← HE2.out]; exact hown4); have hx4 := (hs4.block wr.heap.size ⟨hz3', Hap3.out⟩ hz3').trans Hx3.out; obtain ⟨r0, r1, r2, r3, _⟩ := box4 hx4; have hz4 := hb4.size; clear hown4 hx4 hs4))
          go_wp2_with (go_at_call 89; refine (part_ok _ w1.heap.size v4 E2 Hown4.out C1 xv c1 ((Hs3.out.bsame (Same.of_low (((Below.refl w1.heap.size wr).alloc (by omega) _).drew))).bsame (Same.of_low hb3) |>.bsame (Same.of_low hb4)) (by omega) (by unfold big; omega)).mono ?_; rintro e w5 ⟨v5, rfl, hown5, hb5, _, _⟩; have Hown5 := Lib.hid (show w5.ownsRow w1.heap.size 5 1 v5 E3.length (E3.map bv) by rw [← HE3.out]; exact hown5))
          go_roundw
          case rel => exact ⟨k + 1, v5, by omega, by go_num, rfl, by rw [Hnx.out, show (E ++ wrBytes ⟨xn, xk, false, xv⟩) = E3 by rw [← HE3.out, ← HE2.out, ← HE1.out]; simp [wrBytes]]; exact Hown5.out, (((Hbel.out.alloc (by omega) _).drew.trans hb3).trans hb4).trans hb5⟩
          case measure => simp [intOf]; omega
    · obtain rfl : k = l.length := by omega
      have Hbs := Lib.hid (Hown.out)
      rcases Hown.out.2 with ⟨rfl, h0⟩ | ⟨g, cap, cur, rfl, _, _, _⟩
      · have Hh0 := Lib.hid h0
        clear h0
        go_wp2
        go_ret2
        rw [Hv.out]
        exact ⟨none, 0, by dsimp only; rw [Hh0.out]; rfl, (SL.bof_own Hbs.out).2.blo (by omega), Hbw.out⟩
      · go_wp2
        go_ret2
        rw [Hv.out]
        exact ⟨_, cap, rfl, (SL.bof_own Hbs.out).2.blo (by omega), Hbw.out⟩
set_option maxRecDepth 100000 in
set_option maxHeartbeats 1000000 in
theorem encode_any (w : World) (A : Option Addr) (t : Int) (l : List Wr) (n : Nat) (ha : Ws All w A l) (hn : l.length * 80 ≤ 140737488355328) :
    Calls Tryd.prog 50 #[.agg #[.int .i64 t, .slice A l.length n]] w (RetBE w (encS (t, l))) := by
  have Ha := Lib.hid ha
  clear ha
  by_cases h1 : commitFaultS (t, l) = 0
  · have h2 := (cm_fine h1).1
    dsimp only at h2
    obtain ⟨m, rfl⟩ := Int.eq_ofNat_of_zero_le (show 0 ≤ t by omega)
    exact encode_ok w A m l n Ha.out hn h1
  · have b1 : (commitFaultS (t, l) != 0) = true := by simpa using h1
    have Hv := Lib.hid (show encS (t, l) = ([], commitFaultS (t, l)) by unfold encS; rw [if_pos h1])
    clear h1
    go_enter Tryd.func50, Tryd.ntmps50
    go_wp2_with (go_at_call 88; refine (tapeCheck_ok _ A t l n (Ha.out.below wrR_stays ?_) hn).mono ?_; (repeat' (first | exact Below.refl _ _ | assumption | refine Below.drew ?_ | refine below_drewN ?_ _ | refine Below.alloc ?_ (by first | exact Nat.le_refl _ | omega | (simp; done) | (simp; omega)) _)); rintro e w1 ⟨rfl, hb1⟩)
    go_ret2
    rw [Hv.out]
    exact ⟨none, 0, rfl, SL.nil, Below.next ((Below.refl _ _).alloc (Nat.le_refl _) _) hb1 (by simp)⟩
end Go.Proofs.YteacjkihjeiafaaDoor
namespace Go.Proofs.YteacjkihjeiafaaDoor
open Go.RowKit
set_option linter.unusedVariables false
set_option linter.unusedSimpArgs false

theorem encS_len (c : Cm) : (encS c).1.length ≤ big := by
  unfold encS big
  by_cases h : commitFaultS c = 0
  · rw [if_neg (by simpa using h)]
    have h1 := encTo_len h c.2.length (Nat.le_refl _)
    have h2 := (cm_fine h).2.1
    dsimp only
    omega
  · rw [if_pos h]
    simp
end Go.Proofs.YteacjkihjeiafaaDoor
