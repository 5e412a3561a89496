/- Walk: tape.Decode. -/
import Derived.Test.YthhcdibimnifaaaDecS
import Derived.Test.YthhcdibimnifaaaTake
import Derived.Test.YthhcdibimnifaaaTenOwn
namespace Go.Proofs.Ythhcdibimnifaaa
open Go.RowKit
set_option linter.unusedVariables false
set_option linter.unusedSimpArgs false

/-- The call returns a commit of its own memory, and a number. -/
def RetCmE (w : World) (r : Cm × Int) (e : Ending) (w' : World) : Prop :=
  ∃ A n, e = .returned (.tuple #[.agg #[.int .i64 r.1.1, .slice A r.1.2.length n], .int .i64 r.2]) ∧ Ws (From w.heap.size) w' A r.1.2 ∧ Below w.heap.size w w'
theorem byte_to {w : World} {R : Nat} {s s' : Rdr} {n : Nat} (e : byteS s = (n, s')) (h : RdrAt w R s) (hb : s.1.length ≤ 4000) :
    Calls Try.prog 117 #[.pointer (some ⟨R, 0, none⟩)] w (fun e w' => e = .returned (.int .i64 (n : Int)) ∧ RdrAt w' R s' ∧ Same (fun b => b ≠ R) w w' ∧ Below R w w') := by
  have h := byte_ok w R s h hb
  rw [e] at h
  exact h
theorem take_to {w : World} {R : Nat} {s s' : Rdr} {n : Nat} {x : List UInt8} (e : takeS s n = (x, s')) (h : RdrAt w R s) (hn : n ≤ 255) (hb : s.1.length ≤ 4000) :
    Calls Try.prog 118 #[.pointer (some ⟨R, 0, none⟩), .int .i64 n] w (fun e w' => ∃ B d, e = .returned (.slice B x.length d) ∧ Bs (From w.heap.size) w' B x ∧ RdrAt w' R s' ∧ Same (fun b => b ≠ R) w w' ∧ Below R w w') := by
  have h := take_ok w R s n h hn hb
  rw [e] at h
  exact h
theorem or_turn (x y z : Nat) (hx : x < 256) (hy : y < 256) (hz : z < 256) :
    Go.bits .or .i64 (Go.bits .or .i64 (IntKind.i64.wrap ((x : Int) * 65536)) (IntKind.i64.wrap ((y : Int) * 256))) (z : Int) = ((65536 * x + 256 * y + z : Nat) : Int) := by
  have wr : ∀ n : Int, 0 ≤ n → n < 2 ^ 62 → IntKind.i64.wrap n = n := fun n h0 h1 => IntWalk.i64_in _ (by omega)
  rw [wr _ (by omega) (by omega), wr _ (by omega) (by omega)]
  rw [bits_join .i64 62 (by decide) wr 16 ((x : Int) * 65536) ((y : Int) * 256) (by omega) (by omega) (by omega) (by omega) (by omega) (by omega)]
  rw [bits_join .i64 62 (by decide) wr 8 ((x : Int) * 65536 + (y : Int) * 256) (z : Int) (by omega) (by omega) (by omega) (by omega) (by omega) (by omega)]
  omega
/-- Decode behind k writes: the reader at block R, the commit at block C, the result at block G. -/
structure DecAt (w : World) (R C base : Nat) (b : List UInt8) (k : Nat) (v : Value) (wr : World) : Prop where
  rdr : RdrAt wr R (wrsS (headS b) k).2
  com : wr.heap[C]? = some (.cells #[.int .i64 (turnS b : Nat), v] 59 (0, 0))
  own : Own 4 WrR (From base) wr base 94 v (wrsS (headS b) k).1
  res : wr.heap[w.heap.size]? = some (.cells #[.int .i64 0, .slice none 0 0] 59 (0, 0))
  bel : Below w.heap.size w wr
  siz : base ≤ wr.heap.size
theorem head_rest (b : List UInt8) : (headS b).1.length ≤ b.length := Nat.le_trans (byte_rest _) (Nat.le_trans (byte_rest _) (Nat.le_trans (byte_rest _) (byte_rest _)))
set_option maxRecDepth 100000 in
set_option maxHeartbeats 4000000 in
theorem decode_ok (w : World) (A : Option Addr) (b : List UInt8) (c : Nat) (ha : Bs All w A b) (hc : b.length ≤ c) :
    Calls Try.prog 55 #[.slice A b.length c] w (RetCmE w (decS b)) := by
  obtain ⟨i0, hi0, hz0, hz1, hz2⟩ := info_parts info_wr
  by_cases hb : 4000 < b.length
  · have Hv := Lib.hid (show decS b = ((0, []), 1) by unfold decS; rw [if_pos hb])
    clear ha hc
    go_enter Try.func55, Try.ntmps55
    go_wp2
    refine bodyPost_ret (v := .tuple #[.agg #[.int .i64 0, .slice none 0 0], .int .i64 1]) (by simp [results, Try.results55, go_sem]) rfl ?_
    rw [Hv.out]
    exact ⟨none, 0, rfl, SL.nil, by repeat' (first | exact Below.refl _ _ | assumption | refine Below.drew ?_ | refine below_drewN ?_ _ | refine Below.setCell ?_ (by first | (simp; done) | omega | (simp; omega)) _ | refine Below.alloc ?_ (by first | exact Nat.le_refl _ | omega | (simp; done) | (simp; omega)) _)⟩
  · have hb' : b.length ≤ 4000 := by omega
    have Hr0 := Lib.hid (show RdrAt ((w.alloc (.cells #[.int .i64 0, .slice none 0 0] 59)).alloc (.cells #[.slice A b.length c, .bool false] 132)) (w.heap.size + 1) (b, false) from
      ⟨A, c, by have := heap_alloc_new (w.alloc (.cells #[.int .i64 0, .slice none 0 0] 59)) (.cells #[.slice A b.length c, .bool false] 132); simpa using this, hc, ((ha.low byteR_stays (n := w.heap.size + 1) (by omega)).bsame (((Same.refl _ _).alloc _).alloc _)).bless fun b _ h => h⟩)
    clear ha
    go_enter Try.func55, Try.ntmps55
    go_wp2_with (first
      | (go_at_call 117; (with_reducible refine (byte_ok _ (w.heap.size + 1) (b, false) ?h hb').mono ?_); (case h => exact Hr0.out); rintro e w1 ⟨rfl, hr1, hsm1, hbl1⟩)
      | (go_at_call 117; (with_reducible refine (byte_ok _ (w.heap.size + 1) (byteS (b, false)).2 ?h ?hb).mono ?_); (case h => exact hr1); (case hb => exact Nat.le_trans (byte_rest _) hb'); rintro e w2 ⟨rfl, hr2, hsm2, hbl2⟩)
      | (go_at_call 117; (with_reducible refine (byte_ok _ (w.heap.size + 1) (byteS (byteS (b, false)).2).2 ?h ?hb).mono ?_); (case h => exact hr2); (case hb => exact Nat.le_trans (byte_rest _) (Nat.le_trans (byte_rest _) hb')); rintro e w3 ⟨rfl, hr3, hsm3, hbl3⟩)
      | (go_at_call 117; (with_reducible refine (byte_ok _ (w.heap.size + 1) (byteS (byteS (byteS (b, false)).2).2).2 ?h ?hb).mono ?_); (case h => exact hr3.same ((Same.refl _ _).alloc _)); (case hb => exact Nat.le_trans (byte_rest _) (Nat.le_trans (byte_rest _) (Nat.le_trans (byte_rest _) hb'))); rintro e w4 ⟨rfl, hr4, hsm4, hbl4⟩))
    have z1 := hsm1.size
    have z2 := hsm2.size
    have z3 := hsm3.size
    have z4 := hsm4.size
    simp at z1 z4
    have hD : DecAt w (w.heap.size + 1) w3.heap.size w4.heap.size b 0 (.slice none 0 0) w4 := by
      have hs14 : Same (fun b => b ≠ w.heap.size + 1) ((w.alloc (.cells #[.int .i64 0, .slice none 0 0] 59)).alloc (.cells #[.slice A b.length c, .bool false] 132)) w4 := ((hsm1.trans hsm2).trans hsm3).trans ((Same.refl _ _).alloc _ |>.trans hsm4)
      refine ⟨hr4, ?_, Own.nil _ _ _, ?_, ?_, Nat.le_refl _⟩
      · refine (hsm4.block w3.heap.size (by omega) (by simp)).trans ((box_new w3 _ _).trans ?_)
        rw [← IntWalk.i64_left, ← IntWalk.i64_left]
        have e := or_turn (byteS (b, false)).1 (byteS (byteS (b, false)).2).1 (byteS (byteS (byteS (b, false)).2).2).1 (rdByte_lt _) (rdByte_lt _) (rdByte_lt _)
        exact congrArg (fun z => some (Obj.cells #[.int .i64 z, .slice none 0 0] 59 (0, 0))) (e.trans (by rfl))
      · refine (hs14.block w.heap.size (by omega) (by simp; omega)).trans ?_
        rw [heap_alloc_old _ _ (by simp)]
        exact box_new w _ _
      · exact ((((((Below.refl w.heap.size w).alloc (Nat.le_refl _) _).alloc (by simp) _).trans (hbl1.mono (by omega))).trans (hbl2.mono (by omega))).trans (hbl3.mono (by omega))).trans ((((Below.refl _ _).alloc (Nat.le_refl _) _).mono (by omega)).trans (hbl4.mono (by omega)))
    have HD := Lib.hid hD
    have hCR : w.heap.size + 1 < w3.heap.size := by omega
    have hC4 : w3.heap.size < w4.heap.size := by omega
    clear hD hr1 hr2 hr3 hr4 hsm1 hsm2 hsm3 hsm4 hbl1 hbl2 hbl3 hbl4 Hr0 z1 z2 z3 z4
    have hcnt : (byteS (byteS (byteS (byteS (b, false)).2).2).2).1 = countS b := rfl
    rw [hcnt]
    generalize w3.heap.size = C at *
    generalize w4.heap.size = base at *
    generalize hRR : w.heap.size + 1 = R at *
    go_loopw [29] (fun i wr => ∃ (k : Nat) (v : Value), k ≤ countS b ∧ i = .int .i64 k ∧ DecAt w R C base b k v wr) (fun i _ => countS b - (intOf i).toNat)
    case atStart => exact ⟨0, _, by omega, rfl, HD.out⟩
    case round =>
      obtain ⟨k, v, hk, rfl, hd⟩ := hrel
      have Hd := Lib.hid hd
      have hsz := hd.siz
      clear hd HD
      by_cases hlt : k < countS b
      · obtain ⟨s0, es0⟩ : ∃ s, s = (wrsS (headS b) k).2 := ⟨_, rfl⟩
        have hr0 : RdrAt wr R s0 := by rw [es0]; exact Hd.out.rdr
        have hl0 : s0.1.length ≤ 4000 := by rw [es0]; exact Nat.le_trans (wrs_rest _ _) (Nat.le_trans (head_rest b) hb')
        obtain ⟨n1, s1, e1⟩ : ∃ n s, byteS s0 = (n, s) := ⟨_, _, rfl⟩
        have hl1 : s1.1.length ≤ 4000 := by have := byte_rest s0; rw [e1] at this; exact Nat.le_trans this hl0
        have hn1 : n1 < 256 := by have := rdByte_lt s0; rw [e1] at this; exact this
        obtain ⟨x1, s2, e2⟩ : ∃ n s, takeS s1 n1 = (n, s) := ⟨_, _, rfl⟩
        have hl2 : s2.1.length ≤ 4000 := by have := take_rest s1 n1; rw [e2] at this; exact Nat.le_trans this hl1
        have hx1 : x1.length ≤ 255 := by have := take_len s1 n1; rw [e2] at this; dsimp only at this; omega
        obtain ⟨n2, s3, e3⟩ : ∃ n s, byteS s2 = (n, s) := ⟨_, _, rfl⟩
        have hl3 : s3.1.length ≤ 4000 := by have := byte_rest s2; rw [e3] at this; exact Nat.le_trans this hl2
        have hn2 : n2 < 256 := by have := rdByte_lt s2; rw [e3] at this; exact this
        obtain ⟨x2, s4, e4⟩ : ∃ n s, takeS s3 n2 = (n, s) := ⟨_, _, rfl⟩
        have hl4 : s4.1.length ≤ 4000 := by have := take_rest s3 n2; rw [e4] at this; exact Nat.le_trans this hl3
        have hx2 : x2.length ≤ 255 := by have := take_len s3 n2; rw [e4] at this; dsimp only at this; omega
        obtain ⟨n3, s5, e5⟩ : ∃ n s, byteS s4 = (n, s) := ⟨_, _, rfl⟩
        have hl5 : s5.1.length ≤ 4000 := by have := byte_rest s4; rw [e5] at this; exact Nat.le_trans this hl4
        have hn3 : n3 < 256 := by have := rdByte_lt s4; rw [e5] at this; exact this
        have p1 : pieceS s0 = (x1, s2) := by unfold pieceS; rw [e1]; exact e2
        have p2 : pieceS s2 = (x2, s4) := by unfold pieceS; rw [e3]; exact e4
        have Hwr := Lib.hid (show wrS s0 = (⟨x1, x2, (valueS s4).1.1, (valueS s4).1.2⟩, (valueS s4).2) by unfold wrS; rw [p1]; dsimp only; rw [p2])
        clear p1 p2
        have hl8 : (wrsS (headS b) k).1.length = k := wrs_len _ _
        have hk255 : k < 255 := by have := rdByte_lt ((byteS (byteS (byteS (b, false)).2).2).2); have h2 : (byteS (byteS (byteS (byteS (b, false)).2).2).2).1 = countS b := rfl; omega
        by_cases hg : n3 = 255
        ·
          have hg' : ((n3 : Int) == 255) = true := by simp; omega
          have Hv := Lib.hid (show valueS s4 = ((true, []), s5) by unfold valueS; rw [e5]; exact if_pos hg)
          have Hnext := Lib.hid (show wrsS (headS b) (k + 1) = ((wrsS (headS b) k).1 ++ [⟨x1, x2, true, []⟩], s5) by rw [wrsS, ← es0, Hwr.out, Hv.out])
          clear hg Hv Hwr
          go_wp2_with (first
            | (go_at_call 117; (with_reducible refine (byte_to (s := s0) e1 ?h ?hb).mono ?_); (case h => exact hr0); (case hb => exact hl0); rintro e w1 ⟨rfl, hr1, hsm1, hbl1⟩; have z1 := hsm1.size)
            | (go_at_call 118; (with_reducible refine (take_to (s := s1) e2 ?h ?hn ?hb).mono ?_); (case h => exact hr1); (case hn => omega); (case hb => exact hl1); rintro e w2 ⟨B1, d1, rfl, hs1, hr2, hsm2, hbl2⟩; have z2 := hsm2.size)
            | (go_at_call 117; (with_reducible refine (byte_to (s := s2) e3 ?h ?hb).mono ?_); (case h => exact hr2.same ((Same.refl _ _).alloc _)); (case hb => exact hl2); rintro e w3 ⟨rfl, hr3, hsm3, hbl3⟩; have z3 := hsm3.size; simp at z3)
            | (go_at_call 118; (with_reducible refine (take_to (s := s3) e4 ?h ?hn ?hb).mono ?_); (case h => exact hr3); (case hn => omega); (case hb => exact hl3); rintro e w4 ⟨B2, d2, rfl, hs2, hr4, hsm4, hbl4⟩; have z4 := hsm4.size; have hW4 : w4.heap[w2.heap.size]? = some (.cells #[.slice B1 x1.length d1, .slice none 0 0, .bool false, .slice none 0 0] 94 (0, 0)) := (hsm4.block w2.heap.size (by omega) (by omega)).trans ((hsm3.block w2.heap.size (by omega) (by simp)).trans (box_new w2 _ _)); obtain ⟨qa0, qa1, qa2, qa3, qa4, qa5, qa6, qa7⟩ := box4 hW4)
            | (go_at_call 117; (with_reducible refine (byte_to (s := s4) e5 ?h ?hb).mono ?_); (case h => exact hr4.same ((Same.refl _ _).setCell (fun hq => by have hq2 : w2.heap.size ≤ R := hq; omega) _)); (case hb => exact hl4); rintro e w5 ⟨rfl, hr5, hsm5, hbl5⟩; have z5 := hsm5.size; simp at z5; have hW5 : w5.heap[w2.heap.size]? = some (.cells #[.slice B1 x1.length d1, .slice B2 x2.length d2, .bool false, .slice none 0 0] 94 (0, 0)) := (hsm5.block w2.heap.size (by omega) (by simp; omega)).trans ((heap_setCell_same _ _ _ _ _ _ hW4).trans rfl); obtain ⟨ra0, ra1, ra2, ra3, ra4, ra5, ra6, ra7⟩ := box4 hW5; have F1 : Same (fun b => b ≠ R ∧ b < wr.heap.size) wr w5 := ((((((hsm1.trans hsm2).weak (fun k h => h.1)).alloc _).trans (hsm3.weak (fun k h => h.1))).trans (hsm4.weak (fun k h => h.1))).setCell (fun hq => by have hq2 : w2.heap.size < wr.heap.size := hq.2; omega) _).trans (hsm5.weak (fun k h => h.1)); have F3 : Below w.heap.size wr w5 := ((((((hbl1.mono (by omega)).trans (hbl2.mono (by omega))).alloc (by omega) _).trans (hbl3.mono (by omega))).trans (hbl4.mono (by omega))).setCell (by simp only []; omega) _).trans (hbl5.mono (by omega)); have hB1 : Bs (fun b => wr.heap.size ≤ b ∧ b ≠ w2.heap.size) w5 B1 x1 := (hs1.bless (S' := fun b => wr.heap.size ≤ b ∧ b ≠ w2.heap.size) fun b hb h => ⟨by simp only [From] at h; omega, by omega⟩).bsame ((((((Same.refl _ _).alloc _).trans (hsm3.weak fun k h => by have := h.1; omega)).trans (hsm4.weak fun k h => by have := h.1; omega)).setCell (fun hq => hq.2 rfl) _).trans (hsm5.weak fun k h => by have := h.1; omega)); have hB2 : Bs (fun b => wr.heap.size ≤ b ∧ b ≠ w2.heap.size) w5 B2 x2 := (hs2.bless (S' := fun b => wr.heap.size ≤ b ∧ b ≠ w2.heap.size) fun b hb h => ⟨by simp only [From] at h; omega, by simp only [From] at h; omega⟩).bsame (((Same.refl _ _).setCell (fun hq => hq.2 rfl) _).trans (hsm5.weak fun k h => by have := h.1; omega)); have hCw5 : w5.heap[C]? = some (.cells #[.int .i64 (turnS b : Nat), v] 59 (0, 0)) := (F1.block C ⟨by omega, by omega⟩ (by omega)).trans Hd.out.com; obtain ⟨ca0, ca1, ca2, ca3⟩ := box2 hCw5)
            | (at_builtin; refine wpl_snoc wrR_stays (S := From base) _ rfl _ _ _ rfl base 94 i0 _ 4 80 Try.underlying51 hi0 hz0 hz1 hz2 rfl (by decide) v (wrsS (headS b) k).1 rfl ?hown _ _ [.slice B1 x1.length d1, .slice B2 x2.length d2, .bool true, .slice none 0 0] rfl rfl (new_src _ _ [.slice B1 x1.length d1, .slice B2 x2.length d2, .bool true, .slice none 0 0] _ (by simp)) (by simp [Value.oneCell']) ?hm ?hby ?hba ⟨x1, x2, true, []⟩ ?hd ?_; (case hown => (have h0 : Same (fun b => b ≠ R ∧ b < wr.heap.size) wr ((w5.setCell ⟨w2.heap.size, 2, none⟩ (.bool true)).alloc (.cells ([.slice B1 x1.length d1, .slice B2 x2.length d2, .bool true, .slice none 0 0] : List Value).toArray 94)) := (F1.setCell (fun hq => by have hq2 : w2.heap.size < wr.heap.size := hq.2; omega) _).alloc _; exact Own.same_from wrR_stays Hd.out.own ⟨h0.size, fun k hk hk2 => h0.block k ⟨by simp only [From] at hk; omega, hk2⟩ hk2⟩)); (case hm => (rw [hl8]; simp only [maxLen]; omega)); (case hby => (rw [hl8]; omega)); (case hba => (simp; omega)); (case hd => exact ⟨B1, d1, B2, d2, none, 0, rfl, (hB1.bsame (((Same.refl _ _).setCell (p := ⟨w2.heap.size, 2, none⟩) (S := fun b => wr.heap.size ≤ b ∧ b ≠ w2.heap.size) (fun hq => hq.2 rfl) (.bool true)).alloc _)).bless (fun b _ h => ⟨by have := h.1; simp only [From]; omega, Hd.out.own.apart wr.heap.size (Nat.le_refl _) b h.1⟩), (hB2.bsame (((Same.refl _ _).setCell (p := ⟨w2.heap.size, 2, none⟩) (S := fun b => wr.heap.size ≤ b ∧ b ≠ w2.heap.size) (fun hq => hq.2 rfl) (.bool true)).alloc _)).bless (fun b _ h => ⟨by have := h.1; simp only [From]; omega, Hd.out.own.apart wr.heap.size (Nat.le_refl _) b h.1⟩), SL.nil, by show x1.length ≤ 140737488355328; omega, by show x2.length ≤ 140737488355328; omega, by exact Nat.zero_le _⟩); intro v8 w8 hown8 hbw8; obtain ⟨A8, c8, rfl, _, _⟩ := hown8.readc wrR_stays; have Hown8 := Lib.hid hown8; clear hown8; have hC8 : w8.heap[C]? = some (.cells #[.int .i64 (turnS b : Nat), v] 59 (0, 0)) := (hbw8.block C (by omega)).trans ((heap_alloc_old _ _ (by simp; omega)).trans ((heap_setCell_other _ _ _ _ (by show C ≠ w2.heap.size; omega)).trans hCw5)); obtain ⟨da0, da1, da2, da3⟩ := box2 hC8; have z8 := hbw8.size; simp at z8))
          go_roundw
          case rel =>
            refine ⟨k + 1, .slice A8 (k + 1) c8, by omega, by go_num, ⟨?_, ?_, ?_, ?_, ?_, ?_⟩⟩
            · rw [Hnext.out]
              exact hr5.same (((((Same.refl (fun b => b ≤ R) w5).setCell (fun hq => by have hq2 : w2.heap.size ≤ R := hq; omega) _).alloc _).trans ⟨hbw8.size, fun k hk _ => hbw8.block k (by omega)⟩).setCell (fun hq => by have hq2 : C ≤ R := hq; omega) _)
            · rw [heap_setCell_same _ _ _ _ _ _ hC8]
              rfl
            · rw [Hnext.out]
              have h := Own.same_from wrR_stays Hown8.out ((Same.refl _ _).setCell (p := ⟨C, 1, none⟩) (fun h => by simp only [From] at h; omega) (.slice A8 (k + 1) c8))
              rw [List.length_append, hl8] at h
              exact h
            · rw [heap_setCell_other _ _ _ _ (by show w.heap.size ≠ C; omega), hbw8.block _ (by omega), heap_alloc_old _ _ (by simp; omega), heap_setCell_other _ _ _ _ (by show w.heap.size ≠ w2.heap.size; omega)]
              exact (F1.block w.heap.size ⟨by omega, by omega⟩ (by omega)).trans Hd.out.res
            · exact (((Hd.out.bel.trans F3).setCell (by show w.heap.size ≤ w2.heap.size; omega) _).alloc (by simp; omega) _).trans (hbw8.mono (by omega)) |>.setCell (by show w.heap.size ≤ C; omega) _
            · simp; omega
          case measure => simp [intOf]; omega
        ·
          have hg' : ((n3 : Int) == 255) = false := by simp; omega
          obtain ⟨x3, s6, e6⟩ : ∃ n s, takeS s5 n3 = (n, s) := ⟨_, _, rfl⟩
          have hx3 : x3.length ≤ 255 := by have := take_len s5 n3; rw [e6] at this; dsimp only at this; omega
          have Hv := Lib.hid (show valueS s4 = ((false, x3), s6) by unfold valueS; rw [e5]; dsimp only; rw [if_neg hg, e6])
          have Hnext := Lib.hid (show wrsS (headS b) (k + 1) = ((wrsS (headS b) k).1 ++ [⟨x1, x2, false, x3⟩], s6) by rw [wrsS, ← es0, Hwr.out, Hv.out])
          clear hg Hv Hwr
          go_wp2_with (first
            | (go_at_call 117; (with_reducible refine (byte_to (s := s0) e1 ?h ?hb).mono ?_); (case h => exact hr0); (case hb => exact hl0); rintro e w1 ⟨rfl, hr1, hsm1, hbl1⟩; have z1 := hsm1.size)
            | (go_at_call 118; (with_reducible refine (take_to (s := s1) e2 ?h ?hn ?hb).mono ?_); (case h => exact hr1); (case hn => omega); (case hb => exact hl1); rintro e w2 ⟨B1, d1, rfl, hs1, hr2, hsm2, hbl2⟩; have z2 := hsm2.size)
            | (go_at_call 117; (with_reducible refine (byte_to (s := s2) e3 ?h ?hb).mono ?_); (case h => exact hr2.same ((Same.refl _ _).alloc _)); (case hb => exact hl2); rintro e w3 ⟨rfl, hr3, hsm3, hbl3⟩; have z3 := hsm3.size; simp at z3)
            | (go_at_call 118; (with_reducible refine (take_to (s := s3) e4 ?h ?hn ?hb).mono ?_); (case h => exact hr3); (case hn => omega); (case hb => exact hl3); rintro e w4 ⟨B2, d2, rfl, hs2, hr4, hsm4, hbl4⟩; have z4 := hsm4.size; have hW4 : w4.heap[w2.heap.size]? = some (.cells #[.slice B1 x1.length d1, .slice none 0 0, .bool false, .slice none 0 0] 94 (0, 0)) := (hsm4.block w2.heap.size (by omega) (by omega)).trans ((hsm3.block w2.heap.size (by omega) (by simp)).trans (box_new w2 _ _)); obtain ⟨qa0, qa1, qa2, qa3, qa4, qa5, qa6, qa7⟩ := box4 hW4)
            | (go_at_call 117; (with_reducible refine (byte_to (s := s4) e5 ?h ?hb).mono ?_); (case h => exact hr4.same ((Same.refl _ _).setCell (fun hq => by have hq2 : w2.heap.size ≤ R := hq; omega) _)); (case hb => exact hl4); rintro e w5 ⟨rfl, hr5, hsm5, hbl5⟩; have z5 := hsm5.size; simp at z5; have hW5 : w5.heap[w2.heap.size]? = some (.cells #[.slice B1 x1.length d1, .slice B2 x2.length d2, .bool false, .slice none 0 0] 94 (0, 0)) := (hsm5.block w2.heap.size (by omega) (by simp; omega)).trans ((heap_setCell_same _ _ _ _ _ _ hW4).trans rfl); obtain ⟨ra0, ra1, ra2, ra3, ra4, ra5, ra6, ra7⟩ := box4 hW5; have F1 : Same (fun b => b ≠ R ∧ b < wr.heap.size) wr w5 := ((((((hsm1.trans hsm2).weak (fun k h => h.1)).alloc _).trans (hsm3.weak (fun k h => h.1))).trans (hsm4.weak (fun k h => h.1))).setCell (fun hq => by have hq2 : w2.heap.size < wr.heap.size := hq.2; omega) _).trans (hsm5.weak (fun k h => h.1)); have F3 : Below w.heap.size wr w5 := ((((((hbl1.mono (by omega)).trans (hbl2.mono (by omega))).alloc (by omega) _).trans (hbl3.mono (by omega))).trans (hbl4.mono (by omega))).setCell (by simp only []; omega) _).trans (hbl5.mono (by omega)); have hB1 : Bs (fun b => wr.heap.size ≤ b ∧ b ≠ w2.heap.size) w5 B1 x1 := (hs1.bless (S' := fun b => wr.heap.size ≤ b ∧ b ≠ w2.heap.size) fun b hb h => ⟨by simp only [From] at h; omega, by omega⟩).bsame ((((((Same.refl _ _).alloc _).trans (hsm3.weak fun k h => by have := h.1; omega)).trans (hsm4.weak fun k h => by have := h.1; omega)).setCell (fun hq => hq.2 rfl) _).trans (hsm5.weak fun k h => by have := h.1; omega)); have hB2 : Bs (fun b => wr.heap.size ≤ b ∧ b ≠ w2.heap.size) w5 B2 x2 := (hs2.bless (S' := fun b => wr.heap.size ≤ b ∧ b ≠ w2.heap.size) fun b hb h => ⟨by simp only [From] at h; omega, by simp only [From] at h; omega⟩).bsame (((Same.refl _ _).setCell (fun hq => hq.2 rfl) _).trans (hsm5.weak fun k h => by have := h.1; omega)))
            | (go_at_call 118; (with_reducible refine (take_to (s := s5) e6 ?h ?hn ?hb).mono ?_); (case h => exact hr5); (case hn => omega); (case hb => exact hl5); rintro e w6 ⟨B3, d3, rfl, hs3, hr6, hsm6, hbl6⟩; have z6 := hsm6.size; replace F1 : Same (fun b => b ≠ R ∧ b < wr.heap.size) wr w6 := F1.trans (hsm6.weak (fun k h => h.1)); replace F3 : Below w.heap.size wr w6 := F3.trans (hbl6.mono (by omega)); replace hB1 : Bs (fun b => wr.heap.size ≤ b ∧ b ≠ w2.heap.size) w6 B1 x1 := hB1.bsame (hsm6.weak fun k h => by have := h.1; omega); replace hB2 : Bs (fun b => wr.heap.size ≤ b ∧ b ≠ w2.heap.size) w6 B2 x2 := hB2.bsame (hsm6.weak fun k h => by have := h.1; omega); have hB3 : Bs (fun b => wr.heap.size ≤ b ∧ b ≠ w2.heap.size) w6 B3 x3 := hs3.bless fun b hb h => ⟨by simp only [From] at h; omega, by simp only [From] at h; omega⟩; have hW6 : w6.heap[w2.heap.size]? = some (.cells #[.slice B1 x1.length d1, .slice B2 x2.length d2, .bool false, .slice none 0 0] 94 (0, 0)) := (hsm6.block w2.heap.size (by omega) (by omega)).trans hW5; obtain ⟨sa0, sa1, sa2, sa3, sa4, sa5, sa6, sa7⟩ := box4 hW6; have hCw6 : w6.heap[C]? = some (.cells #[.int .i64 (turnS b : Nat), v] 59 (0, 0)) := (F1.block C ⟨by omega, by omega⟩ (by omega)).trans Hd.out.com; obtain ⟨ca0, ca1, ca2, ca3⟩ := box2 hCw6)
            | (at_builtin; refine wpl_snoc wrR_stays (S := From base) _ rfl _ _ _ rfl base 94 i0 _ 4 80 Try.underlying51 hi0 hz0 hz1 hz2 rfl (by decide) v (wrsS (headS b) k).1 rfl ?hown _ _ [.slice B1 x1.length d1, .slice B2 x2.length d2, .bool false, .slice B3 x3.length d3] rfl rfl (new_src _ _ [.slice B1 x1.length d1, .slice B2 x2.length d2, .bool false, .slice B3 x3.length d3] _ (by simp)) (by simp [Value.oneCell']) ?hm ?hby ?hba ⟨x1, x2, false, x3⟩ ?hd ?_; (case hown => (have h0 : Same (fun b => b ≠ R ∧ b < wr.heap.size) wr ((w6.setCell ⟨w2.heap.size, 3, none⟩ (.slice B3 x3.length d3)).alloc (.cells ([.slice B1 x1.length d1, .slice B2 x2.length d2, .bool false, .slice B3 x3.length d3] : List Value).toArray 94)) := (F1.setCell (fun hq => by have hq2 : w2.heap.size < wr.heap.size := hq.2; omega) _).alloc _; exact Own.same_from wrR_stays Hd.out.own ⟨h0.size, fun k hk hk2 => h0.block k ⟨by simp only [From] at hk; omega, hk2⟩ hk2⟩)); (case hm => (rw [hl8]; simp only [maxLen]; omega)); (case hby => (rw [hl8]; omega)); (case hba => (simp; omega)); (case hd => exact ⟨B1, d1, B2, d2, B3, d3, rfl, (hB1.bsame (((Same.refl _ _).setCell (p := ⟨w2.heap.size, 3, none⟩) (S := fun b => wr.heap.size ≤ b ∧ b ≠ w2.heap.size) (fun hq => hq.2 rfl) (.slice B3 x3.length d3)).alloc _)).bless (fun b _ h => ⟨by have := h.1; simp only [From]; omega, Hd.out.own.apart wr.heap.size (Nat.le_refl _) b h.1⟩), (hB2.bsame (((Same.refl _ _).setCell (p := ⟨w2.heap.size, 3, none⟩) (S := fun b => wr.heap.size ≤ b ∧ b ≠ w2.heap.size) (fun hq => hq.2 rfl) (.slice B3 x3.length d3)).alloc _)).bless (fun b _ h => ⟨by have := h.1; simp only [From]; omega, Hd.out.own.apart wr.heap.size (Nat.le_refl _) b h.1⟩), (hB3.bsame (((Same.refl _ _).setCell (p := ⟨w2.heap.size, 3, none⟩) (S := fun b => wr.heap.size ≤ b ∧ b ≠ w2.heap.size) (fun hq => hq.2 rfl) (.slice B3 x3.length d3)).alloc _)).bless (fun b _ h => ⟨by have := h.1; simp only [From]; omega, Hd.out.own.apart wr.heap.size (Nat.le_refl _) b h.1⟩), by show x1.length ≤ 140737488355328; omega, by show x2.length ≤ 140737488355328; omega, by show x3.length ≤ 140737488355328; omega⟩); intro v8 w8 hown8 hbw8; obtain ⟨A8, c8, rfl, _, _⟩ := hown8.readc wrR_stays; have Hown8 := Lib.hid hown8; clear hown8; have hC8 : w8.heap[C]? = some (.cells #[.int .i64 (turnS b : Nat), v] 59 (0, 0)) := (hbw8.block C (by omega)).trans ((heap_alloc_old _ _ (by simp; omega)).trans ((heap_setCell_other _ _ _ _ (by show C ≠ w2.heap.size; omega)).trans hCw6)); obtain ⟨da0, da1, da2, da3⟩ := box2 hC8; have z8 := hbw8.size; simp at z8))
          go_roundw
          case rel =>
            refine ⟨k + 1, .slice A8 (k + 1) c8, by omega, by go_num, ⟨?_, ?_, ?_, ?_, ?_, ?_⟩⟩
            · rw [Hnext.out]
              exact hr6.same (((((Same.refl (fun b => b ≤ R) w6).setCell (fun hq => by have hq2 : w2.heap.size ≤ R := hq; omega) _).alloc _).trans ⟨hbw8.size, fun k hk _ => hbw8.block k (by omega)⟩).setCell (fun hq => by have hq2 : C ≤ R := hq; omega) _)
            · rw [heap_setCell_same _ _ _ _ _ _ hC8]
              rfl
            · rw [Hnext.out]
              have h := Own.same_from wrR_stays Hown8.out ((Same.refl _ _).setCell (p := ⟨C, 1, none⟩) (fun h => by simp only [From] at h; omega) (.slice A8 (k + 1) c8))
              rw [List.length_append, hl8] at h
              exact h
            · rw [heap_setCell_other _ _ _ _ (by show w.heap.size ≠ C; omega), hbw8.block _ (by omega), heap_alloc_old _ _ (by simp; omega), heap_setCell_other _ _ _ _ (by show w.heap.size ≠ w2.heap.size; omega)]
              exact (F1.block w.heap.size ⟨by omega, by omega⟩ (by omega)).trans Hd.out.res
            · exact (((Hd.out.bel.trans F3).setCell (by show w.heap.size ≤ w2.heap.size; omega) _).alloc (by simp; omega) _).trans (hbw8.mono (by omega)) |>.setCell (by show w.heap.size ≤ C; omega) _
            · simp; omega
          case measure => simp [intOf]; omega
      · obtain rfl : k = countS b := by omega
        obtain ⟨l, el⟩ : ∃ l, l = (wrsS (headS b) (countS b)).1 := ⟨_, rfl⟩
        obtain ⟨rest, short, eS⟩ : ∃ r f, (wrsS (headS b) (countS b)).2 = (r, f) := ⟨_, _, rfl⟩
        have hll : l.length < 256 := by rw [el, wrs_len]; exact rdByte_lt _
        have hr : RdrAt wr R (rest, short) := by rw [← eS]; exact Hd.out.rdr
        have hown : Own 4 WrR (From base) wr base 94 v l := by rw [el]; exact Hd.out.own
        obtain ⟨A8, c8, rfl, _, hs8⟩ := hown.readc wrR_stays
        have Hs8 := Lib.hid hs8
        have Hr := Lib.hid hr
        obtain ⟨ca0, ca1, _⟩ := box2 Hd.out.com
        have hcm : cmS b = ((turnS b : Int), l) := by unfold cmS; rw [el]
        have hcom := Hd.out.com
        have Hres := Lib.hid Hd.out.res
        have Hbel := Lib.hid Hd.out.bel
        clear hs8 hr hown Hd el
        generalize ((turnS b : Nat) : Int) = T at *
        cases short
        · by_cases h1 : 0 < rest.length
          · have h1' : decide ((0 : Int) < (rest.length : Int)) = true := decide_eq_true (by omega)
            have Hv := Lib.hid (show decS b = ((0, []), 4) by unfold decS; rw [if_neg hb, eS]; dsimp only; rw [if_neg (by decide), if_pos h1])
            go_wp2_with (go_at_call 48; (with_reducible refine (tapeCheck_ok _ A8 T l c8 ?ha ?hn).mono ?_); (case ha => exact Hs8.out.z wrR_stays); (case hn => omega); rintro e w7 ⟨rfl, hb7⟩; have z7 := hb7.size; obtain ⟨A9, c9, hx9, _, _⟩ := (Hr.out.same (Same.of_below hb7)).box; obtain ⟨rr0, rr1, _⟩ := box2 hx9; have hG7 := (hb7.block w.heap.size (by omega)).trans Hres.out; obtain ⟨gg0, gg1, gg2, gg3⟩ := box2 hG7; have hC7 := (hb7.block C (by omega)).trans hcom; obtain ⟨cc0, cc1, _⟩ := box2 hC7)
            refine bodyPost_ret (v := .tuple #[.agg #[.int .i64 0, .slice none 0 0], .int .i64 4]) (by simp [results, Try.results55, go_sem, gg0, gg1]) rfl ?_
            rw [Hv.out]
            exact ⟨none, 0, rfl, SL.nil, (((Hbel.out.trans (hb7.mono (by omega))).setCell (by show w.heap.size ≤ w.heap.size; omega) _).setCell (by show w.heap.size ≤ w.heap.size; omega) _)⟩
          · have h1' : decide ((0 : Int) < (rest.length : Int)) = false := decide_eq_false (by omega)
            by_cases h2 : commitFaultS (T, l) = 0
            · have H2 := Lib.hid h2
              have Hv := Lib.hid (show decS b = ((T, l), 0) by unfold decS; rw [if_neg hb, eS]; dsimp only; rw [if_neg (by decide), if_neg h1, hcm, if_neg (by rw [h2]; decide)])
              clear h2
              go_wp2_with (go_at_call 48; (with_reducible refine (tapeCheck_ok _ A8 T l c8 ?ha ?hn).mono ?_); (case ha => exact Hs8.out.z wrR_stays); (case hn => omega); rintro e w7 ⟨rfl, hb7⟩; have z7 := hb7.size; obtain ⟨A9, c9, hx9, _, _⟩ := (Hr.out.same (Same.of_below hb7)).box; obtain ⟨rr0, rr1, _⟩ := box2 hx9; have hG7 := (hb7.block w.heap.size (by omega)).trans Hres.out; obtain ⟨gg0, gg1, gg2, gg3⟩ := box2 hG7; have hC7 := (hb7.block C (by omega)).trans hcom; obtain ⟨cc0, cc1, _⟩ := box2 hC7; rw [H2.out])
              refine bodyPost_ret (v := .tuple #[.agg #[.int .i64 T, .slice A8 l.length c8], .int .i64 0]) (by simp [results, Try.results55, go_sem, gg0, gg1]) rfl ?_
              rw [Hv.out]
              refine ⟨A8, c8, rfl, ?_, (((Hbel.out.trans (hb7.mono (by omega))).setCell (by show w.heap.size ≤ w.heap.size; omega) _).setCell (by show w.heap.size ≤ w.heap.size; omega) _)⟩
              exact ((Hs8.out.below wrR_stays hb7).same wrR_stays (((Same.refl _ _).setCell (fun h => by simp only [From] at h; omega) _).setCell (fun h => by simp only [From] at h; omega) _)).lo wrR_stays (by omega)
            · have h2' : (commitFaultS (T, l) != 0) = true := by simpa using h2
              have Hv := Lib.hid (show decS b = ((0, []), commitFaultS (T, l)) by unfold decS; rw [if_neg hb, eS]; dsimp only; rw [if_neg (by decide), if_neg h1, hcm, if_pos h2])
              go_wp2_with (go_at_call 48; (with_reducible refine (tapeCheck_ok _ A8 T l c8 ?ha ?hn).mono ?_); (case ha => exact Hs8.out.z wrR_stays); (case hn => omega); rintro e w7 ⟨rfl, hb7⟩; have z7 := hb7.size; obtain ⟨A9, c9, hx9, _, _⟩ := (Hr.out.same (Same.of_below hb7)).box; obtain ⟨rr0, rr1, _⟩ := box2 hx9; have hG7 := (hb7.block w.heap.size (by omega)).trans Hres.out; obtain ⟨gg0, gg1, gg2, gg3⟩ := box2 hG7; have hC7 := (hb7.block C (by omega)).trans hcom; obtain ⟨cc0, cc1, _⟩ := box2 hC7)
              refine bodyPost_ret (v := .tuple #[.agg #[.int .i64 0, .slice none 0 0], .int .i64 (commitFaultS (T, l))]) (by simp [results, Try.results55, go_sem, gg0, gg1]) rfl ?_
              rw [Hv.out]
              exact ⟨none, 0, rfl, SL.nil, (((Hbel.out.trans (hb7.mono (by omega))).setCell (by show w.heap.size ≤ w.heap.size; omega) _).setCell (by show w.heap.size ≤ w.heap.size; omega) _)⟩
        ·
          have Hv := Lib.hid (show decS b = ((0, []), 14) by unfold decS; rw [if_neg hb, eS]; dsimp only; rw [if_pos rfl])
          go_wp2_with (go_at_call 48; (with_reducible refine (tapeCheck_ok _ A8 T l c8 ?ha ?hn).mono ?_); (case ha => exact Hs8.out.z wrR_stays); (case hn => omega); rintro e w7 ⟨rfl, hb7⟩; have z7 := hb7.size; obtain ⟨A9, c9, hx9, _, _⟩ := (Hr.out.same (Same.of_below hb7)).box; obtain ⟨rr0, rr1, _⟩ := box2 hx9; have hG7 := (hb7.block w.heap.size (by omega)).trans Hres.out; obtain ⟨gg0, gg1, gg2, gg3⟩ := box2 hG7; have hC7 := (hb7.block C (by omega)).trans hcom; obtain ⟨cc0, cc1, _⟩ := box2 hC7)
          refine bodyPost_ret (v := .tuple #[.agg #[.int .i64 0, .slice none 0 0], .int .i64 14]) (by simp [results, Try.results55, go_sem, gg0, gg1]) rfl ?_
          rw [Hv.out]
          exact ⟨none, 0, rfl, SL.nil, (((Hbel.out.trans (hb7.mono (by omega))).setCell (by show w.heap.size ≤ w.heap.size; omega) _).setCell (by show w.heap.size ≤ w.heap.size; omega) _)⟩
end Go.Proofs.Ythhcdibimnifaaa
