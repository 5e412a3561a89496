/- Walk: CommitOf. -/
import Derived.Test.YthhcdibimnifaaaDecode
namespace Go.Proofs.Ythhcdibimnifaaa
open Go.RowKit
set_option linter.unusedVariables false
set_option linter.unusedSimpArgs false

theorem pieceAt_len (b : List UInt8) (p : Int) : (pieceAt b p).1.length ≤ 255 := by
  unfold pieceAt
  split
  · rw [List.length_take]
    have := (b.getD p.toNat 0).toNat_lt
    omega
  · exact Nat.zero_le _
theorem pieceAt_low {b : List UInt8} {p : Int} (h : ¬ (0 ≤ p ∧ p < b.length)) : pieceAt b p = ([], -1) := by
  unfold pieceAt
  rw [if_neg (fun h2 => h ⟨h2.1, h2.2.1⟩)]
theorem piece_to {w : World} {A : Option Addr} {b : List UInt8} {c : Nat} {p q : Int} {x : List UInt8} (e : pieceAt b p = (x, q)) (ha : Bs All w A b) (hc : b.length ≤ c) (hb : b.length ≤ 4000) :
    Calls Try.prog 119 #[.slice A b.length c, .int .i64 p] w (fun e w' => ∃ B d, e = .returned (.tuple #[.slice B x.length d, .int .i64 q]) ∧ Bs (From w.heap.size) w' B x ∧ Below w.heap.size w w') := by
  have h := piece_ok w A b c p ha hc hb
  rw [e] at h
  exact h
theorem four_of {b : List UInt8} (h : 4 ≤ b.length) : headS b = (b.drop 4, false) ∧ turnS b = 65536 * (b.getD 0 0).toNat + 256 * (b.getD 1 0).toNat + (b.getD 2 0).toNat ∧ countS b = (b.getD 3 0).toNat := by
  match b, h with
  | x :: y :: z :: t :: r, _ =>
    obtain ⟨h1, h2, h3⟩ := head_four (x := x) (y := y) (z := z) (t := t) (r := r)
    exact ⟨h1, h2, h3⟩
theorem bs_get {w : World} {g off : Nat} {b : List UInt8} (h : Bs All w (some ⟨g, off, none⟩) b) {k : Nat} (hk : k < b.length) : w.cell? ⟨g, off + k, none⟩ = some (.int .u8 ((b.getD k 0).toNat : Int)) := by
  obtain ⟨g', off', e, _, _, hc⟩ := h.bat hk
  cases e
  rw [hc, List.getD_eq_getElem?_getD, List.getElem?_eq_getElem hk]
  rfl
/-- CommitOf behind k writes, at place p: the commit at block C, the result at block w.heap.size. -/
structure RefAt (w : World) (C base : Nat) (b : List UInt8) (k : Nat) (p : Int) (v : Value) (wr : World) : Prop where
  rdr : RdAt b (wrsS (headS b) k).2 p
  long : (wrsS (headS b) k).2.2 = false
  com : wr.heap[C]? = some (.cells #[.int .i64 (turnS b : Nat), v] 59 (0, 0))
  own : Own 4 WrR (From base) wr base 94 v (wrsS (headS b) k).1
  res : wr.heap[w.heap.size]? = some (.cells #[.int .i64 0, .slice none 0 0] 59 (0, 0))
  bel : Below w.heap.size w wr
  siz : base ≤ wr.heap.size
set_option maxRecDepth 100000 in
set_option maxHeartbeats 4000000 in
theorem commitOf_ok (w : World) (A : Option Addr) (b : List UInt8) (c : Nat) (ha : Bs All w A b) (hc : b.length ≤ c) :
    Calls Try.prog 56 #[.slice A b.length c] w (RetCmE w (decS b)) := by
  obtain ⟨i0, hi0, hz0, hz1, hz2⟩ := info_parts info_wr
  by_cases hb : 4000 < b.length
  · have Hv := Lib.hid (show decS b = ((0, []), 1) by unfold decS; rw [if_pos hb])
    clear ha hc
    go_enter Try.func56, Try.ntmps56
    go_wp2
    refine bodyPost_ret (v := .tuple #[.agg #[.int .i64 0, .slice none 0 0], .int .i64 1]) (by simp [results, Try.results56, go_sem]) rfl ?_
    rw [Hv.out]
    exact ⟨none, 0, rfl, SL.nil, by repeat' (first | exact Below.refl _ _ | assumption | refine Below.drew ?_ | refine below_drewN ?_ _ | refine Below.setCell ?_ (by first | (simp; done) | omega | (simp; omega)) _ | refine Below.alloc ?_ (by first | exact Nat.le_refl _ | omega | (simp; done) | (simp; omega)) _)⟩
  · by_cases h4 : b.length < 4
    · have Hv := Lib.hid (show decS b = ((0, []), 14) by unfold decS; rw [if_neg hb, if_pos (show (wrsS (headS b) (countS b)).2.2 = true from wrs_short (n := 0) (s := headS b) (head_short h4) _ (Nat.zero_le _))])
      clear ha hc
      go_enter Try.func56, Try.ntmps56
      go_wp2
      refine bodyPost_ret (v := .tuple #[.agg #[.int .i64 0, .slice none 0 0], .int .i64 14]) (by simp [results, Try.results56, go_sem]) rfl ?_
      rw [Hv.out]
      exact ⟨none, 0, rfl, SL.nil, by repeat' (first | exact Below.refl _ _ | assumption | refine Below.drew ?_ | refine below_drewN ?_ _ | refine Below.setCell ?_ (by first | (simp; done) | omega | (simp; omega)) _ | refine Below.alloc ?_ (by first | exact Nat.le_refl _ | omega | (simp; done) | (simp; omega)) _)⟩
    · have hb' : b.length ≤ 4000 := by omega
      have h4' : ¬ (b.length : Int) < 4 := by omega
      obtain ⟨q1, q2, q3⟩ := four_of (b := b) (by omega)
      obtain ⟨g, off, rfl, _, hlt, _⟩ := ha.bat (k := 0) (by omega)
      have Ha := Lib.hid ha
      have Hc0 := Lib.hid (bs_get ha (k := 0) (by omega))
      have Hc1 := Lib.hid (bs_get ha (k := 1) (by omega))
      have Hc2 := Lib.hid (bs_get ha (k := 2) (by omega))
      have Hc3 := Lib.hid (bs_get ha (k := 3) (by omega))
      have y0 := (b.getD 0 0).toNat_lt
      have y1 := (b.getD 1 0).toNat_lt
      have y2 := (b.getD 2 0).toNat_lt
      have y3 := (b.getD 3 0).toNat_lt
      rw [← q3] at Hc3 y3
      have Hturn := Lib.hid q2
      have Hhead := Lib.hid q1
      generalize (b.getD 0 0).toNat = x0 at *
      generalize (b.getD 1 0).toNat = x1 at *
      generalize (b.getD 2 0).toNat = x2 at *
      have hc0 := Hc0.out
      have hc1 := Hc1.out
      have hc2 := Hc2.out
      rw [Nat.add_zero] at hc0
      have i0' : (0 : Int) < (b.length : Int) := by omega
      have i1' : (1 : Int) < (b.length : Int) := by omega
      have i2' : (2 : Int) < (b.length : Int) := by omega
      have i3' : (3 : Int) < (b.length : Int) := by omega
      have m1 : IntKind.i64.wrap (65536 * (x0 : Int)) = 65536 * (x0 : Int) := IntWalk.i64_in _ (by omega)
      have m2 : IntKind.i64.wrap (256 * (x1 : Int)) = 256 * (x1 : Int) := IntWalk.i64_in _ (by omega)
      have m3 : IntKind.i64.wrap (65536 * (x0 : Int) + 256 * (x1 : Int)) = 65536 * (x0 : Int) + 256 * (x1 : Int) := IntWalk.i64_in _ (by omega)
      have m4 : IntKind.i64.wrap (65536 * (x0 : Int) + 256 * (x1 : Int) + (x2 : Int)) = 65536 * (x0 : Int) + 256 * (x1 : Int) + (x2 : Int) := IntWalk.i64_in _ (by omega)
      clear q1 q2 q3 ha
      go_enter Try.func56, Try.ntmps56
      go_wp2_with fail
      go_region
      all_goals
        go_wp2_with fail

        go_loopw [5, 6] (fun q i wr => ∃ (k : Nat) (p : Int) (v : Value), k ≤ countS b ∧ q = .int .i64 p ∧ i = .int .i64 k ∧ RefAt w (w.heap.size + 1) (w.heap.size + 2) b k p v wr) (fun _ i _ => countS b - (intOf i).toNat)
        case atStart =>
          refine ⟨0, 4, .slice none 0 0, by omega, rfl, rfl, ⟨?_, ?_, ?_, Own.nil _ _ _, ?_, ?_, ?_⟩⟩
          · show RdAt b (headS b) 4
            rw [Hhead.out]
            exact .inl ⟨rfl, by omega, by omega, rfl⟩
          · show (headS b).2 = false
            rw [Hhead.out]
          · rw [Hturn.out]
            have h := heap_alloc_new (w.alloc (.cells #[.int .i64 0, .slice none 0 0] 59)) (.cells #[.int .i64 (65536 * (x0 : Int) + 256 * (x1 : Int) + (x2 : Int)), .slice none 0 0] 59)
            have h2 : ((w.alloc (.cells #[.int .i64 0, .slice none 0 0] 59)).alloc (.cells #[.int .i64 (65536 * (x0 : Int) + 256 * (x1 : Int) + (x2 : Int)), .slice none 0 0] 59)).heap[w.heap.size + 1]? = some (.cells #[.int .i64 ((65536 * x0 + 256 * x1 + x2 : Nat) : Int), .slice none 0 0] 59 (0, 0)) := by simpa using h
            exact h2
          · have h := heap_alloc_new w (.cells #[.int .i64 0, .slice none 0 0] 59)
            first
              | exact (heap_alloc_old _ _ (by simp)).trans h
              | (simpa using h)
          · repeat' (first | exact Below.refl _ _ | assumption | refine Below.drew ?_ | refine below_drewN ?_ _ | refine Below.setCell ?_ (by first | (simp; done) | omega | (simp; omega)) _ | refine Below.alloc ?_ (by first | exact Nat.le_refl _ | omega | (simp; done) | (simp; omega)) _)
          · simp
        case round =>
          obtain ⟨k, p, v, hk, rfl, rfl, hd⟩ := hrel
          have Hd := Lib.hid hd
          have hsz := hd.siz
          have hc3 := (hd.bel.cell (p := ⟨g, off + 3, none⟩) hlt).trans Hc3.out
          clear hd
          by_cases hk2 : k < countS b
          · have hk2' : (k : Int) < (countS b : Int) := by omega
            obtain ⟨s0, es0⟩ : ∃ s, s = (wrsS (headS b) k).2 := ⟨_, rfl⟩
            have hp0 : RdAt b s0 p := by rw [es0]; exact Hd.out.rdr
            obtain ⟨x1, p1, e1⟩ : ∃ x q, pieceAt b p = (x, q) := ⟨_, _, rfl⟩
            obtain ⟨x2, p2, e2⟩ : ∃ x q, pieceAt b p1 = (x, q) := ⟨_, _, rfl⟩
            obtain ⟨x3, p3, e3⟩ : ∃ x q, pieceAt b p2 = (x, q) := ⟨_, _, rfl⟩
            have hx1 : x1.length ≤ 255 := by have := pieceAt_len b p; rw [e1] at this; exact this
            have hx2 : x2.length ≤ 255 := by have := pieceAt_len b p1; rw [e2] at this; exact this
            have hx3 : x3.length ≤ 255 := by have := pieceAt_len b p2; rw [e3] at this; exact this
            obtain ⟨hp1, hv1⟩ := piece_at hp0
            rw [e1] at hp1 hv1
            obtain ⟨hp2, hv2⟩ := piece_at hp1
            rw [e2] at hp2 hv2
            dsimp only at hp1 hv1 hp2 hv2
            have hl8 : (wrsS (headS b) k).1.length = k := wrs_len _ _
            have Hends := Lib.hid (show (wrS s0).2.2 = true → decS b = ((0, []), 14) from fun h => by
              have h2 : (wrsS (headS b) (k + 1)).2.2 = true := by rw [wrsS, ← es0]; exact h
              unfold decS
              rw [if_neg hb, if_pos (show (wrsS (headS b) (countS b)).2.2 = true from wrs_short h2 _ (by omega))])
            have hsh1 : (valueS (pieceS (pieceS s0).2).2).2.2 = false → (pieceS s0).2.2 = false := fun h => by
              rcases Bool.eq_false_or_eq_true (pieceS s0).2.2 with h1 | h1
              · rw [value_short (piece_short h1)] at h; cases h
              · exact h1
            have hsh2 : (valueS (pieceS (pieceS s0).2).2).2.2 = false → (pieceS (pieceS s0).2).2.2 = false := fun h => by
              rcases Bool.eq_false_or_eq_true (pieceS (pieceS s0).2).2.2 with h1 | h1
              · rw [value_short h1] at h; cases h
              · exact h1
            by_cases hin : 0 ≤ p2 ∧ p2 < (b.length : Int)
            · obtain ⟨m, rfl⟩ : ∃ m : Nat, p2 = m := ⟨p2.toNat, by omega⟩
              have hm : m < b.length := by omega
              have m0 : (0 : Int) ≤ (m : Int) := by omega
              have m1' : (m : Int) < (b.length : Int) := by omega
              have mw : IntKind.i64.wrap ((m : Int) + 1) = (m : Int) + 1 := IntWalk.i64_in _ (by omega)
              have Hcm := Lib.hid (bs_get Ha.out hm)
              have hy := (b.getD m 0).toNat_lt
              by_cases h255 : (b.getD m 0).toNat = 255
              · have hg : goneAt b (m : Int) = true := decide_eq_true ⟨by omega, by omega, by rw [Int.toNat_natCast]; exact h255⟩
                obtain ⟨hrd, hval⟩ := gone_yes hp2 hg
                have hlong : (valueS (pieceS (pieceS s0).2).2).2.2 = false := by rw [at_short hrd]; exact decide_eq_false (by omega)
                have Hnext := Lib.hid (show wrsS (headS b) (k + 1) = ((wrsS (headS b) k).1 ++ [⟨x1, x2, true, []⟩], (valueS (pieceS (pieceS s0).2).2).2) by rw [wrsS, ← es0]; unfold wrS; rw [← hv1 (hsh1 hlong), ← hv2 (hsh2 hlong), hval])
                have Hrd := Lib.hid hrd
                have Hlong := Lib.hid hlong
                clear hrd hlong hval hv1 hv2 hsh1 hsh2 hp0 hp1 hp2 es0
                rw [h255] at Hcm
                clear h255 hg
                go_wp2_with (first
                  | (go_at_call 119; (with_reducible refine (piece_to (p := p) e1 ?ha hc hb').mono ?_); (case ha => exact Ha.out.bbelow (Hd.out.bel.alloc (by omega) _)); rintro e w1 ⟨B1, d1, rfl, hs1, hb1⟩; have z1 := hb1.size; simp at z1; have hW1 : w1.heap[wr.heap.size]? = some (.cells #[.slice none 0 0, .slice none 0 0, .bool false, .slice none 0 0] 94 (0, 0)) := (hb1.block wr.heap.size (by simp)).trans (box_new wr _ _); obtain ⟨qa0, qa1, qa2, qa3, qa4, qa5, qa6, qa7⟩ := box4 hW1; have F1 : Below wr.heap.size wr w1 := ((Below.refl _ _).alloc (Nat.le_refl _) _).next hb1 (by simp); have hB1 : Bs (fun b => wr.heap.size < b) w1 B1 x1 := hs1.bless fun b _ h => (by simp only [From] at h; first | omega | (simp at h; omega)))
                  | (go_at_call 119; (with_reducible refine (piece_to (p := p1) e2 ?ha hc hb').mono ?_); (case ha => exact Ha.out.bbelow ((Hd.out.bel.trans (F1.mono (by omega))).setCell (by show w.heap.size ≤ wr.heap.size; omega) _)); rintro e w2 ⟨B2, d2, rfl, hs2, hb2⟩; have z2 := hb2.size; simp at z2; have hW2 : w2.heap[wr.heap.size]? = some (.cells #[.slice B1 x1.length d1, .slice none 0 0, .bool false, .slice none 0 0] 94 (0, 0)) := (hb2.block wr.heap.size (by simp; omega)).trans ((heap_setCell_same _ _ _ _ _ _ hW1).trans rfl); obtain ⟨ra0, ra1, ra2, ra3, ra4, ra5, ra6, ra7⟩ := box4 hW2; have F2 : Below wr.heap.size wr w2 := (F1.setCell (p := ⟨wr.heap.size, 0, none⟩) (Nat.le_refl _) _).next hb2 (by simp; omega); replace hB1 : Bs (fun b => wr.heap.size < b) w2 B1 x1 := (hB1.bsame ((Same.refl _ _).setCell (p := ⟨wr.heap.size, 0, none⟩) (fun hq => Nat.lt_irrefl _ hq) _)).bbelow hb2; have hB2 : Bs (fun b => wr.heap.size < b) w2 B2 x2 := hs2.bless fun b _ h => (by simp only [From] at h; first | omega | (simp at h; omega)); have hcm := (((Hd.out.bel.trans (F2.mono (by omega))).setCell (p := ⟨wr.heap.size, 1, none⟩) (by show w.heap.size ≤ wr.heap.size; omega) (.slice B2 x2.length d2)).cell (p := ⟨g, off + m, none⟩) hlt).trans Hcm.out; have hCC := (F2.block (w.heap.size + 1) (by omega)).trans Hd.out.com; obtain ⟨ca0, ca1, ca2, ca3⟩ := box2 hCC)
                  | (at_builtin; refine wpl_snoc wrR_stays (S := From (w.heap.size + 2)) _ rfl _ _ _ rfl (w.heap.size + 2) 94 i0 _ 4 80 Try.underlying51 hi0 hz0 hz1 hz2 rfl (by decide) v (wrsS (headS b) k).1 rfl ?hown _ _ [.slice B1 x1.length d1, .slice B2 x2.length d2, .bool true, .slice none 0 0] rfl rfl (new_src _ _ [.slice B1 x1.length d1, .slice B2 x2.length d2, .bool true, .slice none 0 0] _ (by simp)) (by simp [Value.oneCell']) ?hm ?hby ?hba ⟨x1, x2, true, []⟩ ?hd ?_; (case hown => (have h0 := (((F2.setCell (p := ⟨wr.heap.size, 1, none⟩) (Nat.le_refl _) (.slice B2 x2.length d2)).setCell (p := ⟨wr.heap.size, 2, none⟩) (Nat.le_refl _) (.bool true)).alloc (by simp; omega) (.cells ([.slice B1 x1.length d1, .slice B2 x2.length d2, .bool true, .slice none 0 0] : List Value).toArray 94)); exact Own.same_from wrR_stays Hd.out.own ⟨h0.size, fun k hk hk2 => h0.block k hk2⟩)); (case hm => (rw [hl8]; simp only [maxLen]; omega)); (case hby => (rw [hl8]; omega)); (case hba => (simp; omega)); (case hd => exact ⟨B1, d1, B2, d2, none, 0, rfl, (hB1.bsame ((((Same.refl (fun b => wr.heap.size < b) w2).setCell (p := ⟨wr.heap.size, 1, none⟩) (fun hq => Nat.lt_irrefl _ hq) (.slice B2 x2.length d2)).setCell (p := ⟨wr.heap.size, 2, none⟩) (fun hq => Nat.lt_irrefl _ hq) (.bool true)).alloc _)).bless (fun b _ h => ⟨by simp only [From]; omega, Hd.out.own.apart wr.heap.size (Nat.le_refl _) b (Nat.le_of_lt h)⟩), (hB2.bsame ((((Same.refl (fun b => wr.heap.size < b) w2).setCell (p := ⟨wr.heap.size, 1, none⟩) (fun hq => Nat.lt_irrefl _ hq) (.slice B2 x2.length d2)).setCell (p := ⟨wr.heap.size, 2, none⟩) (fun hq => Nat.lt_irrefl _ hq) (.bool true)).alloc _)).bless (fun b _ h => ⟨by simp only [From]; omega, Hd.out.own.apart wr.heap.size (Nat.le_refl _) b (Nat.le_of_lt h)⟩), SL.nil, by show x1.length ≤ 140737488355328; omega, by show x2.length ≤ 140737488355328; omega, by exact Nat.zero_le _⟩); intro v8 w8 hown8 hbw8; obtain ⟨A8, c8, rfl, _, _⟩ := hown8.readc wrR_stays; have Hown8 := Lib.hid hown8; clear hown8; have hC8 : w8.heap[w.heap.size + 1]? = some (.cells #[.int .i64 (turnS b : Nat), v] 59 (0, 0)) := (hbw8.block _ (by omega)).trans ((heap_alloc_old _ _ (by simp; omega)).trans ((heap_setCell_other _ _ _ _ (by show w.heap.size + 1 ≠ wr.heap.size; omega)).trans ((heap_setCell_other _ _ _ _ (by show w.heap.size + 1 ≠ wr.heap.size; omega)).trans hCC))); obtain ⟨da0, da1, da2, da3⟩ := box2 hC8; have z8 := hbw8.size; simp at z8))
                go_roundw
                case rel =>
                  refine ⟨k + 1, ((m : Int) + 1), .slice A8 (k + 1) c8, by omega, by go_num, by go_num, ⟨?_, ?_, ?_, ?_, ?_, ?_, ?_⟩⟩
                  · rw [Hnext.out]; exact Hrd.out
                  · rw [Hnext.out]; exact Hlong.out
                  · rw [heap_setCell_same _ _ _ _ _ _ hC8]
                    rfl
                  · rw [Hnext.out]
                    have h := Own.same_from wrR_stays Hown8.out ((Same.refl _ _).setCell (p := ⟨w.heap.size + 1, 1, none⟩) (fun h => by simp only [From] at h; omega) (.slice A8 (k + 1) c8))
                    rw [List.length_append, hl8] at h
                    exact h
                  · rw [heap_setCell_other _ _ _ _ (by show w.heap.size ≠ w.heap.size + 1; omega), hbw8.block _ (by omega)]
                    exact ((((F2.setCell (p := ⟨wr.heap.size, 1, none⟩) (Nat.le_refl _) (.slice B2 x2.length d2)).setCell (p := ⟨wr.heap.size, 2, none⟩) (Nat.le_refl _) (.bool true)).alloc (by simp; omega) _).block w.heap.size (by omega)).trans Hd.out.res
                  · exact ((Hd.out.bel.trans ((((F2.setCell (p := ⟨wr.heap.size, 1, none⟩) (Nat.le_refl _) (.slice B2 x2.length d2)).setCell (p := ⟨wr.heap.size, 2, none⟩) (Nat.le_refl _) (.bool true)).alloc (by simp; omega) _).mono (by omega))).trans (hbw8.mono (by omega))).setCell (by show w.heap.size ≤ w.heap.size + 1; omega) _
                  · simp; omega
                case measure => simp [intOf]; omega
              · have hg : goneAt b (m : Int) = false := decide_eq_false (fun h => h255 (by have := h.2.2; rwa [Int.toNat_natCast] at this))
                obtain ⟨hrd, hval0⟩ := gone_no hp2 hg
                rw [e3] at hrd hval0
                dsimp only at hrd hval0
                generalize (b.getD m 0).toNat = y at *
                have hy2 : ((y : Int) == 255) = false := by simp; omega
                by_cases h3 : p3 < 0
                · have Hv := Lib.hid (show decS b = ((0, []), 14) from Hends.out (by unfold wrS; rw [at_short hrd]; exact decide_eq_true h3))
                  have h3' : decide (p3 < 0) = true := decide_eq_true h3
                  clear hrd hval0 hv1 hv2 hsh1 hsh2 hp0 hp1 hp2 es0 h255 hg
                  go_wp2_with (first
                    | (go_at_call 119; (with_reducible refine (piece_to (p := p) e1 ?ha hc hb').mono ?_); (case ha => exact Ha.out.bbelow (Hd.out.bel.alloc (by omega) _)); rintro e w1 ⟨B1, d1, rfl, hs1, hb1⟩; have z1 := hb1.size; simp at z1; have hW1 : w1.heap[wr.heap.size]? = some (.cells #[.slice none 0 0, .slice none 0 0, .bool false, .slice none 0 0] 94 (0, 0)) := (hb1.block wr.heap.size (by simp)).trans (box_new wr _ _); obtain ⟨qa0, qa1, qa2, qa3, qa4, qa5, qa6, qa7⟩ := box4 hW1; have F1 : Below wr.heap.size wr w1 := ((Below.refl _ _).alloc (Nat.le_refl _) _).next hb1 (by simp); have hB1 : Bs (fun b => wr.heap.size < b) w1 B1 x1 := hs1.bless fun b _ h => (by simp only [From] at h; first | omega | (simp at h; omega)))
                    | (go_at_call 119; (with_reducible refine (piece_to (p := p1) e2 ?ha hc hb').mono ?_); (case ha => exact Ha.out.bbelow ((Hd.out.bel.trans (F1.mono (by omega))).setCell (by show w.heap.size ≤ wr.heap.size; omega) _)); rintro e w2 ⟨B2, d2, rfl, hs2, hb2⟩; have z2 := hb2.size; simp at z2; have hW2 : w2.heap[wr.heap.size]? = some (.cells #[.slice B1 x1.length d1, .slice none 0 0, .bool false, .slice none 0 0] 94 (0, 0)) := (hb2.block wr.heap.size (by simp; omega)).trans ((heap_setCell_same _ _ _ _ _ _ hW1).trans rfl); obtain ⟨ra0, ra1, ra2, ra3, ra4, ra5, ra6, ra7⟩ := box4 hW2; have F2 : Below wr.heap.size wr w2 := (F1.setCell (p := ⟨wr.heap.size, 0, none⟩) (Nat.le_refl _) _).next hb2 (by simp; omega); replace hB1 : Bs (fun b => wr.heap.size < b) w2 B1 x1 := (hB1.bsame ((Same.refl _ _).setCell (p := ⟨wr.heap.size, 0, none⟩) (fun hq => Nat.lt_irrefl _ hq) _)).bbelow hb2; have hB2 : Bs (fun b => wr.heap.size < b) w2 B2 x2 := hs2.bless fun b _ h => (by simp only [From] at h; first | omega | (simp at h; omega)); have hcm := (((Hd.out.bel.trans (F2.mono (by omega))).setCell (p := ⟨wr.heap.size, 1, none⟩) (by show w.heap.size ≤ wr.heap.size; omega) (.slice B2 x2.length d2)).cell (p := ⟨g, off + m, none⟩) hlt).trans Hcm.out)
                    | (go_at_call 119; (with_reducible refine (piece_to (p := (m : Int)) e3 ?ha hc hb').mono ?_); (case ha => exact Ha.out.bbelow ((Hd.out.bel.trans (F2.mono (by omega))).setCell (by show w.heap.size ≤ wr.heap.size; omega) _)); rintro e w3 ⟨B3, d3, rfl, hs3, hb3⟩; have z3 := hb3.size; simp at z3; have hW3 : w3.heap[wr.heap.size]? = some (.cells #[.slice B1 x1.length d1, .slice B2 x2.length d2, .bool false, .slice none 0 0] 94 (0, 0)) := (hb3.block wr.heap.size (by simp; omega)).trans ((heap_setCell_same _ _ _ _ _ _ hW2).trans rfl); obtain ⟨sa0, sa1, sa2, sa3, sa4, sa5, sa6, sa7⟩ := box4 hW3; have F3 : Below wr.heap.size wr w3 := (F2.setCell (p := ⟨wr.heap.size, 1, none⟩) (Nat.le_refl _) _).next hb3 (by simp; omega); replace hB1 : Bs (fun b => wr.heap.size < b) w3 B1 x1 := (hB1.bsame ((Same.refl _ _).setCell (p := ⟨wr.heap.size, 1, none⟩) (fun hq => Nat.lt_irrefl _ hq) _)).bbelow hb3; replace hB2 : Bs (fun b => wr.heap.size < b) w3 B2 x2 := (hB2.bsame ((Same.refl _ _).setCell (p := ⟨wr.heap.size, 1, none⟩) (fun hq => Nat.lt_irrefl _ hq) _)).bbelow hb3; have hB3 : Bs (fun b => wr.heap.size < b) w3 B3 x3 := hs3.bless fun b _ h => (by simp only [From] at h; first | omega | (simp at h; omega)); have hG3 := (F3.block w.heap.size (by omega)).trans Hd.out.res; obtain ⟨gg0, gg1, gg2, gg3⟩ := box2 hG3; have hCC := (F3.block (w.heap.size + 1) (by omega)).trans Hd.out.com; obtain ⟨ca0, ca1, ca2, ca3⟩ := box2 hCC))
                  refine bodyPost_ret (v := .tuple #[.agg #[.int .i64 0, .slice none 0 0], .int .i64 14]) (by simp [results, Try.results56, go_sem, gg0, gg1]) rfl ?_
                  rw [Hv.out]
                  exact ⟨none, 0, rfl, SL.nil, (((Hd.out.bel.trans (F3.mono (by omega))).setCell (by show w.heap.size ≤ wr.heap.size; omega) _).setCell (by show w.heap.size ≤ w.heap.size; omega) _).setCell (by show w.heap.size ≤ w.heap.size; omega) _⟩
                · have hlong : (valueS (pieceS (pieceS s0).2).2).2.2 = false := by rw [at_short hrd]; exact decide_eq_false h3
                  have hval := hval0 hlong
                  have h3' : decide (p3 < 0) = false := decide_eq_false h3
                  clear hval0
                  have Hnext := Lib.hid (show wrsS (headS b) (k + 1) = ((wrsS (headS b) k).1 ++ [⟨x1, x2, false, x3⟩], (valueS (pieceS (pieceS s0).2).2).2) by rw [wrsS, ← es0]; unfold wrS; rw [← hv1 (hsh1 hlong), ← hv2 (hsh2 hlong), hval])
                  have Hrd := Lib.hid hrd
                  have Hlong := Lib.hid hlong
                  clear hrd hlong hval hv1 hv2 hsh1 hsh2 hp0 hp1 hp2 es0
                  clear h255 hg
                  go_wp2_with (first
                    | (go_at_call 119; (with_reducible refine (piece_to (p := p) e1 ?ha hc hb').mono ?_); (case ha => exact Ha.out.bbelow (Hd.out.bel.alloc (by omega) _)); rintro e w1 ⟨B1, d1, rfl, hs1, hb1⟩; have z1 := hb1.size; simp at z1; have hW1 : w1.heap[wr.heap.size]? = some (.cells #[.slice none 0 0, .slice none 0 0, .bool false, .slice none 0 0] 94 (0, 0)) := (hb1.block wr.heap.size (by simp)).trans (box_new wr _ _); obtain ⟨qa0, qa1, qa2, qa3, qa4, qa5, qa6, qa7⟩ := box4 hW1; have F1 : Below wr.heap.size wr w1 := ((Below.refl _ _).alloc (Nat.le_refl _) _).next hb1 (by simp); have hB1 : Bs (fun b => wr.heap.size < b) w1 B1 x1 := hs1.bless fun b _ h => (by simp only [From] at h; first | omega | (simp at h; omega)))
                    | (go_at_call 119; (with_reducible refine (piece_to (p := p1) e2 ?ha hc hb').mono ?_); (case ha => exact Ha.out.bbelow ((Hd.out.bel.trans (F1.mono (by omega))).setCell (by show w.heap.size ≤ wr.heap.size; omega) _)); rintro e w2 ⟨B2, d2, rfl, hs2, hb2⟩; have z2 := hb2.size; simp at z2; have hW2 : w2.heap[wr.heap.size]? = some (.cells #[.slice B1 x1.length d1, .slice none 0 0, .bool false, .slice none 0 0] 94 (0, 0)) := (hb2.block wr.heap.size (by simp; omega)).trans ((heap_setCell_same _ _ _ _ _ _ hW1).trans rfl); obtain ⟨ra0, ra1, ra2, ra3, ra4, ra5, ra6, ra7⟩ := box4 hW2; have F2 : Below wr.heap.size wr w2 := (F1.setCell (p := ⟨wr.heap.size, 0, none⟩) (Nat.le_refl _) _).next hb2 (by simp; omega); replace hB1 : Bs (fun b => wr.heap.size < b) w2 B1 x1 := (hB1.bsame ((Same.refl _ _).setCell (p := ⟨wr.heap.size, 0, none⟩) (fun hq => Nat.lt_irrefl _ hq) _)).bbelow hb2; have hB2 : Bs (fun b => wr.heap.size < b) w2 B2 x2 := hs2.bless fun b _ h => (by simp only [From] at h; first | omega | (simp at h; omega)); have hcm := (((Hd.out.bel.trans (F2.mono (by omega))).setCell (p := ⟨wr.heap.size, 1, none⟩) (by show w.heap.size ≤ wr.heap.size; omega) (.slice B2 x2.length d2)).cell (p := ⟨g, off + m, none⟩) hlt).trans Hcm.out)
                    | (go_at_call 119; (with_reducible refine (piece_to (p := (m : Int)) e3 ?ha hc hb').mono ?_); (case ha => exact Ha.out.bbelow ((Hd.out.bel.trans (F2.mono (by omega))).setCell (by show w.heap.size ≤ wr.heap.size; omega) _)); rintro e w3 ⟨B3, d3, rfl, hs3, hb3⟩; have z3 := hb3.size; simp at z3; have hW3 : w3.heap[wr.heap.size]? = some (.cells #[.slice B1 x1.length d1, .slice B2 x2.length d2, .bool false, .slice none 0 0] 94 (0, 0)) := (hb3.block wr.heap.size (by simp; omega)).trans ((heap_setCell_same _ _ _ _ _ _ hW2).trans rfl); obtain ⟨sa0, sa1, sa2, sa3, sa4, sa5, sa6, sa7⟩ := box4 hW3; have F3 : Below wr.heap.size wr w3 := (F2.setCell (p := ⟨wr.heap.size, 1, none⟩) (Nat.le_refl _) _).next hb3 (by simp; omega); replace hB1 : Bs (fun b => wr.heap.size < b) w3 B1 x1 := (hB1.bsame ((Same.refl _ _).setCell (p := ⟨wr.heap.size, 1, none⟩) (fun hq => Nat.lt_irrefl _ hq) _)).bbelow hb3; replace hB2 : Bs (fun b => wr.heap.size < b) w3 B2 x2 := (hB2.bsame ((Same.refl _ _).setCell (p := ⟨wr.heap.size, 1, none⟩) (fun hq => Nat.lt_irrefl _ hq) _)).bbelow hb3; have hB3 : Bs (fun b => wr.heap.size < b) w3 B3 x3 := hs3.bless fun b _ h => (by simp only [From] at h; first | omega | (simp at h; omega)); have hG3 := (F3.block w.heap.size (by omega)).trans Hd.out.res; obtain ⟨gg0, gg1, gg2, gg3⟩ := box2 hG3; have hCC := (F3.block (w.heap.size + 1) (by omega)).trans Hd.out.com; obtain ⟨ca0, ca1, ca2, ca3⟩ := box2 hCC)
                    | (at_builtin; refine wpl_snoc wrR_stays (S := From (w.heap.size + 2)) _ rfl _ _ _ rfl (w.heap.size + 2) 94 i0 _ 4 80 Try.underlying51 hi0 hz0 hz1 hz2 rfl (by decide) v (wrsS (headS b) k).1 rfl ?hown _ _ [.slice B1 x1.length d1, .slice B2 x2.length d2, .bool false, .slice B3 x3.length d3] rfl rfl (new_src _ _ [.slice B1 x1.length d1, .slice B2 x2.length d2, .bool false, .slice B3 x3.length d3] _ (by simp)) (by simp [Value.oneCell']) ?hm ?hby ?hba ⟨x1, x2, false, x3⟩ ?hd ?_; (case hown => (have h0 := ((F3.setCell (p := ⟨wr.heap.size, 3, none⟩) (Nat.le_refl _) (.slice B3 x3.length d3)).alloc (by simp; omega) (.cells ([.slice B1 x1.length d1, .slice B2 x2.length d2, .bool false, .slice B3 x3.length d3] : List Value).toArray 94)); exact Own.same_from wrR_stays Hd.out.own ⟨h0.size, fun k hk hk2 => h0.block k hk2⟩)); (case hm => (rw [hl8]; simp only [maxLen]; omega)); (case hby => (rw [hl8]; omega)); (case hba => (simp; omega)); (case hd => exact ⟨B1, d1, B2, d2, B3, d3, rfl, (hB1.bsame (((Same.refl (fun b => wr.heap.size < b) w3).setCell (p := ⟨wr.heap.size, 3, none⟩) (fun hq => Nat.lt_irrefl _ hq) (.slice B3 x3.length d3)).alloc _)).bless (fun b _ h => ⟨by simp only [From]; omega, Hd.out.own.apart wr.heap.size (Nat.le_refl _) b (Nat.le_of_lt h)⟩), (hB2.bsame (((Same.refl (fun b => wr.heap.size < b) w3).setCell (p := ⟨wr.heap.size, 3, none⟩) (fun hq => Nat.lt_irrefl _ hq) (.slice B3 x3.length d3)).alloc _)).bless (fun b _ h => ⟨by simp only [From]; omega, Hd.out.own.apart wr.heap.size (Nat.le_refl _) b (Nat.le_of_lt h)⟩), (hB3.bsame (((Same.refl (fun b => wr.heap.size < b) w3).setCell (p := ⟨wr.heap.size, 3, none⟩) (fun hq => Nat.lt_irrefl _ hq) (.slice B3 x3.length d3)).alloc _)).bless (fun b _ h => ⟨by simp only [From]; omega, Hd.out.own.apart wr.heap.size (Nat.le_refl _) b (Nat.le_of_lt h)⟩), by show x1.length ≤ 140737488355328; omega, by show x2.length ≤ 140737488355328; omega, by show x3.length ≤ 140737488355328; omega⟩); intro v8 w8 hown8 hbw8; obtain ⟨A8, c8, rfl, _, _⟩ := hown8.readc wrR_stays; have Hown8 := Lib.hid hown8; clear hown8; have hC8 : w8.heap[w.heap.size + 1]? = some (.cells #[.int .i64 (turnS b : Nat), v] 59 (0, 0)) := (hbw8.block _ (by omega)).trans ((heap_alloc_old _ _ (by simp; omega)).trans ((heap_setCell_other _ _ _ _ (by show w.heap.size + 1 ≠ wr.heap.size; omega)).trans hCC)); obtain ⟨da0, da1, da2, da3⟩ := box2 hC8; have z8 := hbw8.size; simp at z8))
                  go_roundw
                  case rel =>
                    refine ⟨k + 1, p3, .slice A8 (k + 1) c8, by omega, rfl, by go_num, ⟨?_, ?_, ?_, ?_, ?_, ?_, ?_⟩⟩
                    · rw [Hnext.out]; exact Hrd.out
                    · rw [Hnext.out]; exact Hlong.out
                    · rw [heap_setCell_same _ _ _ _ _ _ hC8]
                      rfl
                    · rw [Hnext.out]
                      have h := Own.same_from wrR_stays Hown8.out ((Same.refl _ _).setCell (p := ⟨w.heap.size + 1, 1, none⟩) (fun h => by simp only [From] at h; omega) (.slice A8 (k + 1) c8))
                      rw [List.length_append, hl8] at h
                      exact h
                    · rw [heap_setCell_other _ _ _ _ (by show w.heap.size ≠ w.heap.size + 1; omega), hbw8.block _ (by omega)]
                      exact (((F3.setCell (p := ⟨wr.heap.size, 3, none⟩) (Nat.le_refl _) (.slice B3 x3.length d3)).alloc (by simp; omega) _).block w.heap.size (by omega)).trans Hd.out.res
                    · exact ((Hd.out.bel.trans (((F3.setCell (p := ⟨wr.heap.size, 3, none⟩) (Nat.le_refl _) (.slice B3 x3.length d3)).alloc (by simp; omega) _).mono (by omega))).trans (hbw8.mono (by omega))).setCell (by show w.heap.size ≤ w.heap.size + 1; omega) _
                    · simp; omega
                  case measure => simp [intOf]; omega
            · have e4 := pieceAt_low hin
              rw [e3] at e4
              have hp3 : p3 = -1 := (Prod.mk.inj e4).2
              have h3 : p3 < 0 := by omega
              have h3' : decide (p3 < 0) = true := decide_eq_true h3
              have hg : goneAt b p2 = false := decide_eq_false (fun h => hin ⟨h.1, h.2.1⟩)
              obtain ⟨hrd, _⟩ := gone_no hp2 hg
              rw [e3] at hrd
              have Hv := Lib.hid (show decS b = ((0, []), 14) from Hends.out (by unfold wrS; rw [at_short hrd]; exact decide_eq_true h3))
              clear hrd hv1 hv2 hsh1 hsh2 hp0 hp1 hp2 es0 hg e4 hp3
              rcases (by omega : p2 < 0 ∨ (0 ≤ p2 ∧ (b.length : Int) ≤ p2)) with h | ⟨h, h'⟩
              · have c1 : decide ((0 : Int) ≤ p2) = false := decide_eq_false (by omega)
                go_wp2_with (first
                  | (go_at_call 119; (with_reducible refine (piece_to (p := p) e1 ?ha hc hb').mono ?_); (case ha => exact Ha.out.bbelow (Hd.out.bel.alloc (by omega) _)); rintro e w1 ⟨B1, d1, rfl, hs1, hb1⟩; have z1 := hb1.size; simp at z1; have hW1 : w1.heap[wr.heap.size]? = some (.cells #[.slice none 0 0, .slice none 0 0, .bool false, .slice none 0 0] 94 (0, 0)) := (hb1.block wr.heap.size (by simp)).trans (box_new wr _ _); obtain ⟨qa0, qa1, qa2, qa3, qa4, qa5, qa6, qa7⟩ := box4 hW1; have F1 : Below wr.heap.size wr w1 := ((Below.refl _ _).alloc (Nat.le_refl _) _).next hb1 (by simp); have hB1 : Bs (fun b => wr.heap.size < b) w1 B1 x1 := hs1.bless fun b _ h => (by simp only [From] at h; first | omega | (simp at h; omega)))
                  | (go_at_call 119; (with_reducible refine (piece_to (p := p1) e2 ?ha hc hb').mono ?_); (case ha => exact Ha.out.bbelow ((Hd.out.bel.trans (F1.mono (by omega))).setCell (by show w.heap.size ≤ wr.heap.size; omega) _)); rintro e w2 ⟨B2, d2, rfl, hs2, hb2⟩; have z2 := hb2.size; simp at z2; have hW2 : w2.heap[wr.heap.size]? = some (.cells #[.slice B1 x1.length d1, .slice none 0 0, .bool false, .slice none 0 0] 94 (0, 0)) := (hb2.block wr.heap.size (by simp; omega)).trans ((heap_setCell_same _ _ _ _ _ _ hW1).trans rfl); obtain ⟨ra0, ra1, ra2, ra3, ra4, ra5, ra6, ra7⟩ := box4 hW2; have F2 : Below wr.heap.size wr w2 := (F1.setCell (p := ⟨wr.heap.size, 0, none⟩) (Nat.le_refl _) _).next hb2 (by simp; omega); replace hB1 : Bs (fun b => wr.heap.size < b) w2 B1 x1 := (hB1.bsame ((Same.refl _ _).setCell (p := ⟨wr.heap.size, 0, none⟩) (fun hq => Nat.lt_irrefl _ hq) _)).bbelow hb2; have hB2 : Bs (fun b => wr.heap.size < b) w2 B2 x2 := hs2.bless fun b _ h => (by simp only [From] at h; first | omega | (simp at h; omega)))
                  | (go_at_call 119; (with_reducible refine (piece_to (p := p2) e3 ?ha hc hb').mono ?_); (case ha => exact Ha.out.bbelow ((Hd.out.bel.trans (F2.mono (by omega))).setCell (by show w.heap.size ≤ wr.heap.size; omega) _)); rintro e w3 ⟨B3, d3, rfl, hs3, hb3⟩; have z3 := hb3.size; simp at z3; have hW3 : w3.heap[wr.heap.size]? = some (.cells #[.slice B1 x1.length d1, .slice B2 x2.length d2, .bool false, .slice none 0 0] 94 (0, 0)) := (hb3.block wr.heap.size (by simp; omega)).trans ((heap_setCell_same _ _ _ _ _ _ hW2).trans rfl); obtain ⟨sa0, sa1, sa2, sa3, sa4, sa5, sa6, sa7⟩ := box4 hW3; have F3 : Below wr.heap.size wr w3 := (F2.setCell (p := ⟨wr.heap.size, 1, none⟩) (Nat.le_refl _) _).next hb3 (by simp; omega); replace hB1 : Bs (fun b => wr.heap.size < b) w3 B1 x1 := (hB1.bsame ((Same.refl _ _).setCell (p := ⟨wr.heap.size, 1, none⟩) (fun hq => Nat.lt_irrefl _ hq) _)).bbelow hb3; replace hB2 : Bs (fun b => wr.heap.size < b) w3 B2 x2 := (hB2.bsame ((Same.refl _ _).setCell (p := ⟨wr.heap.size, 1, none⟩) (fun hq => Nat.lt_irrefl _ hq) _)).bbelow hb3; have hB3 : Bs (fun b => wr.heap.size < b) w3 B3 x3 := hs3.bless fun b _ h => (by simp only [From] at h; first | omega | (simp at h; omega)); have hG3 := (F3.block w.heap.size (by omega)).trans Hd.out.res; obtain ⟨gg0, gg1, gg2, gg3⟩ := box2 hG3; have hCC := (F3.block (w.heap.size + 1) (by omega)).trans Hd.out.com; obtain ⟨ca0, ca1, ca2, ca3⟩ := box2 hCC))
                refine bodyPost_ret (v := .tuple #[.agg #[.int .i64 0, .slice none 0 0], .int .i64 14]) (by simp [results, Try.results56, go_sem, gg0, gg1]) rfl ?_
                rw [Hv.out]
                exact ⟨none, 0, rfl, SL.nil, (((Hd.out.bel.trans (F3.mono (by omega))).setCell (by show w.heap.size ≤ wr.heap.size; omega) _).setCell (by show w.heap.size ≤ w.heap.size; omega) _).setCell (by show w.heap.size ≤ w.heap.size; omega) _⟩
              · have c1 : decide ((0 : Int) ≤ p2) = true := decide_eq_true h
                have c2 : decide (p2 < (b.length : Int)) = false := decide_eq_false (by omega)
                go_wp2_with (first
                  | (go_at_call 119; (with_reducible refine (piece_to (p := p) e1 ?ha hc hb').mono ?_); (case ha => exact Ha.out.bbelow (Hd.out.bel.alloc (by omega) _)); rintro e w1 ⟨B1, d1, rfl, hs1, hb1⟩; have z1 := hb1.size; simp at z1; have hW1 : w1.heap[wr.heap.size]? = some (.cells #[.slice none 0 0, .slice none 0 0, .bool false, .slice none 0 0] 94 (0, 0)) := (hb1.block wr.heap.size (by simp)).trans (box_new wr _ _); obtain ⟨qa0, qa1, qa2, qa3, qa4, qa5, qa6, qa7⟩ := box4 hW1; have F1 : Below wr.heap.size wr w1 := ((Below.refl _ _).alloc (Nat.le_refl _) _).next hb1 (by simp); have hB1 : Bs (fun b => wr.heap.size < b) w1 B1 x1 := hs1.bless fun b _ h => (by simp only [From] at h; first | omega | (simp at h; omega)))
                  | (go_at_call 119; (with_reducible refine (piece_to (p := p1) e2 ?ha hc hb').mono ?_); (case ha => exact Ha.out.bbelow ((Hd.out.bel.trans (F1.mono (by omega))).setCell (by show w.heap.size ≤ wr.heap.size; omega) _)); rintro e w2 ⟨B2, d2, rfl, hs2, hb2⟩; have z2 := hb2.size; simp at z2; have hW2 : w2.heap[wr.heap.size]? = some (.cells #[.slice B1 x1.length d1, .slice none 0 0, .bool false, .slice none 0 0] 94 (0, 0)) := (hb2.block wr.heap.size (by simp; omega)).trans ((heap_setCell_same _ _ _ _ _ _ hW1).trans rfl); obtain ⟨ra0, ra1, ra2, ra3, ra4, ra5, ra6, ra7⟩ := box4 hW2; have F2 : Below wr.heap.size wr w2 := (F1.setCell (p := ⟨wr.heap.size, 0, none⟩) (Nat.le_refl _) _).next hb2 (by simp; omega); replace hB1 : Bs (fun b => wr.heap.size < b) w2 B1 x1 := (hB1.bsame ((Same.refl _ _).setCell (p := ⟨wr.heap.size, 0, none⟩) (fun hq => Nat.lt_irrefl _ hq) _)).bbelow hb2; have hB2 : Bs (fun b => wr.heap.size < b) w2 B2 x2 := hs2.bless fun b _ h => (by simp only [From] at h; first | omega | (simp at h; omega)))
                  | (go_at_call 119; (with_reducible refine (piece_to (p := p2) e3 ?ha hc hb').mono ?_); (case ha => exact Ha.out.bbelow ((Hd.out.bel.trans (F2.mono (by omega))).setCell (by show w.heap.size ≤ wr.heap.size; omega) _)); rintro e w3 ⟨B3, d3, rfl, hs3, hb3⟩; have z3 := hb3.size; simp at z3; have hW3 : w3.heap[wr.heap.size]? = some (.cells #[.slice B1 x1.length d1, .slice B2 x2.length d2, .bool false, .slice none 0 0] 94 (0, 0)) := (hb3.block wr.heap.size (by simp; omega)).trans ((heap_setCell_same _ _ _ _ _ _ hW2).trans rfl); obtain ⟨sa0, sa1, sa2, sa3, sa4, sa5, sa6, sa7⟩ := box4 hW3; have F3 : Below wr.heap.size wr w3 := (F2.setCell (p := ⟨wr.heap.size, 1, none⟩) (Nat.le_refl _) _).next hb3 (by simp; omega); replace hB1 : Bs (fun b => wr.heap.size < b) w3 B1 x1 := (hB1.bsame ((Same.refl _ _).setCell (p := ⟨wr.heap.size, 1, none⟩) (fun hq => Nat.lt_irrefl _ hq) _)).bbelow hb3; replace hB2 : Bs (fun b => wr.heap.size < b) w3 B2 x2 := (hB2.bsame ((Same.refl _ _).setCell (p := ⟨wr.heap.size, 1, none⟩) (fun hq => Nat.lt_irrefl _ hq) _)).bbelow hb3; have hB3 : Bs (fun b => wr.heap.size < b) w3 B3 x3 := hs3.bless fun b _ h => (by simp only [From] at h; first | omega | (simp at h; omega)); have hG3 := (F3.block w.heap.size (by omega)).trans Hd.out.res; obtain ⟨gg0, gg1, gg2, gg3⟩ := box2 hG3; have hCC := (F3.block (w.heap.size + 1) (by omega)).trans Hd.out.com; obtain ⟨ca0, ca1, ca2, ca3⟩ := box2 hCC))
                refine bodyPost_ret (v := .tuple #[.agg #[.int .i64 0, .slice none 0 0], .int .i64 14]) (by simp [results, Try.results56, go_sem, gg0, gg1]) rfl ?_
                rw [Hv.out]
                exact ⟨none, 0, rfl, SL.nil, (((Hd.out.bel.trans (F3.mono (by omega))).setCell (by show w.heap.size ≤ wr.heap.size; omega) _).setCell (by show w.heap.size ≤ w.heap.size; omega) _).setCell (by show w.heap.size ≤ w.heap.size; omega) _⟩
          · obtain rfl : k = countS b := by omega
            have hk2' : ¬ ((countS b : Int) < (countS b : Int)) := by omega
            obtain ⟨l, el⟩ : ∃ l, l = (wrsS (headS b) (countS b)).1 := ⟨_, rfl⟩
            obtain ⟨rest, short, eS⟩ : ∃ r f, (wrsS (headS b) (countS b)).2 = (r, f) := ⟨_, _, rfl⟩
            have hll : l.length < 256 := by rw [el, wrs_len]; exact rdByte_lt _
            obtain rfl : short = false := by have h := Hd.out.long; rw [eS] at h; exact h
            obtain ⟨hrest, hp0⟩ := at_rest Hd.out.rdr Hd.out.long
            rw [eS] at hrest
            dsimp only at hrest
            have hown : Own 4 WrR (From (w.heap.size + 2)) wr (w.heap.size + 2) 94 v l := by rw [el]; exact Hd.out.own
            obtain ⟨A8, c8, rfl, _, hs8⟩ := hown.readc wrR_stays
            have Hs8 := Lib.hid hs8
            have hcom := Hd.out.com
            obtain ⟨ca0, ca1, _⟩ := box2 hcom
            have hcm : cmS b = ((turnS b : Int), l) := by unfold cmS; rw [el]
            have hres := Hd.out.res
            obtain ⟨ha0, ha1, ha2, ha3⟩ := box2 hres
            have Hbel := Lib.hid Hd.out.bel
            clear hs8 hown Hd el Hturn
            generalize ((turnS b : Nat) : Int) = T at *
            by_cases h1 : 0 < rest.length
            · have h1' : decide (p < (b.length : Int)) = true := by rw [← hrest]; exact decide_eq_true h1
              have Hv := Lib.hid (show decS b = ((0, []), 4) by unfold decS; rw [if_neg hb, eS]; dsimp only; rw [if_neg (by decide), if_pos h1])
              have hp1 : ¬ p < 0 := by omega
              clear h1 hrest
              go_wp2
              refine bodyPost_ret (v := .tuple #[.agg #[.int .i64 0, .slice none 0 0], .int .i64 4]) (by simp [results, Try.results56, go_sem, ha0, ha1]) rfl ?_
              rw [Hv.out]
              exact ⟨none, 0, rfl, SL.nil, ((Hbel.out.setCell (by show w.heap.size ≤ w.heap.size; omega) _).setCell (by show w.heap.size ≤ w.heap.size; omega) _)⟩
            · have h1' : decide (p < (b.length : Int)) = false := by rw [← hrest]; exact decide_eq_false h1
              by_cases h2 : commitFaultS (T, l) = 0
              · have H2 := Lib.hid h2
                have Hv := Lib.hid (show decS b = ((T, l), 0) by unfold decS; rw [if_neg hb, eS]; dsimp only; rw [if_neg (by decide), if_neg h1, hcm, if_neg (by rw [h2]; decide)])
                clear h1 h2 hrest
                go_wp2_with (go_at_call 50; (with_reducible refine (commitFault_ok _ A8 T l c8 ?ha ?hn).mono ?_); (case ha => exact Hs8.out.z wrR_stays); (case hn => omega); rintro e w7 ⟨rfl, hb7⟩; have z7 := hb7.size; have hG7 := (hb7.block w.heap.size (by omega)).trans hres; obtain ⟨gg0, gg1, gg2, gg3⟩ := box2 hG7; have hC7 := (hb7.block (w.heap.size + 1) (by omega)).trans hcom; obtain ⟨cc0, cc1, _⟩ := box2 hC7; rw [H2.out])
                refine bodyPost_ret (v := .tuple #[.agg #[.int .i64 T, .slice A8 l.length c8], .int .i64 0]) (by simp [results, Try.results56, go_sem, gg0, gg1]) rfl ?_
                rw [Hv.out]
                refine ⟨A8, c8, rfl, ?_, (((Hbel.out.trans (hb7.mono (by omega))).setCell (by show w.heap.size ≤ w.heap.size; omega) _).setCell (by show w.heap.size ≤ w.heap.size; omega) _)⟩
                exact ((Hs8.out.below wrR_stays hb7).same wrR_stays (((Same.refl _ _).setCell (fun h => by simp only [From] at h; omega) _).setCell (fun h => by simp only [From] at h; omega) _)).lo wrR_stays (by omega)
              · have h2' : (commitFaultS (T, l) != 0) = true := by simpa using h2
                have Hv := Lib.hid (show decS b = ((0, []), commitFaultS (T, l)) by unfold decS; rw [if_neg hb, eS]; dsimp only; rw [if_neg (by decide), if_neg h1, hcm, if_pos h2])
                clear h1 h2 hrest
                go_wp2_with (go_at_call 50; (with_reducible refine (commitFault_ok _ A8 T l c8 ?ha ?hn).mono ?_); (case ha => exact Hs8.out.z wrR_stays); (case hn => omega); rintro e w7 ⟨rfl, hb7⟩; have z7 := hb7.size; have hG7 := (hb7.block w.heap.size (by omega)).trans hres; obtain ⟨gg0, gg1, gg2, gg3⟩ := box2 hG7; have hC7 := (hb7.block (w.heap.size + 1) (by omega)).trans hcom; obtain ⟨cc0, cc1, _⟩ := box2 hC7)
                refine bodyPost_ret (v := .tuple #[.agg #[.int .i64 0, .slice none 0 0], .int .i64 (commitFaultS (T, l))]) (by simp [results, Try.results56, go_sem, gg0, gg1]) rfl ?_
                rw [Hv.out]
                exact ⟨none, 0, rfl, SL.nil, (((Hbel.out.trans (hb7.mono (by omega))).setCell (by show w.heap.size ≤ w.heap.size; omega) _).setCell (by show w.heap.size ≤ w.heap.size; omega) _)⟩
end Go.Proofs.Ythhcdibimnifaaa
