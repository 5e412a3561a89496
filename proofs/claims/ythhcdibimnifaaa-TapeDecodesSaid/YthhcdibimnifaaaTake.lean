/- Walks: the reader of package tape. -/
import Derived.Test.YthhcdibimnifaaaPiece
import Derived.Test.YthhcdibimnifaaaEnc
import Derived.Deep.OwnRows
import Derived.Laws.OwnMore
namespace Go.Proofs.Ythhcdibimnifaaa
open Go.RowKit
set_option linter.unusedVariables false
set_option linter.unusedSimpArgs false

/-- A reader at block R. -/
structure RdrAt (w : World) (R : Nat) (s : Rdr) : Prop where
  box : ∃ A c, w.heap[R]? = some (.cells #[.slice A s.1.length c, .bool s.2] 132 (0, 0)) ∧ s.1.length ≤ c ∧ Bs (fun b => b < R) w A s.1
theorem Same.weak {S S' : Nat → Prop} {w w' : World} (h : Same S w w') (hs : ∀ k, S' k → S k) : Same S' w w' := ⟨h.size, fun k hk hk2 => h.block k (hs k hk) hk2⟩
theorem RdrAt.same {w w' : World} {R : Nat} {s : Rdr} (h : RdrAt w R s) (hs : Same (fun b => b ≤ R) w w') : RdrAt w' R s := by
  obtain ⟨A, c, hx, hc, ha⟩ := h.box
  exact ⟨A, c, (hs.block R (Nat.le_refl R) (Array.getElem?_eq_some_iff.1 hx).1).trans hx, hc, ha.bsame (hs.weak fun k hk => Nat.le_of_lt hk)⟩
/-- The call returns the bytes taken, in new memory; the reader is further on; all else stays. -/
def RetTake (w : World) (R : Nat) (r : List UInt8 × Rdr) (e : Ending) (w' : World) : Prop :=
  ∃ B d, e = .returned (.slice B r.1.length d) ∧ Bs (From w.heap.size) w' B r.1 ∧ RdrAt w' R r.2 ∧ Same (fun b => b ≠ R) w w' ∧ Below R w w'
theorem made_bytes (n : Nat) : madeCells #[Value.int .u8 0] n = ((List.replicate n (0 : UInt8)).map bv).toArray := by
  apply Array.ext'
  rw [toList_madeCells_one]
  simp [bv]
theorem clone_at (w : World) (A : Option Addr) (n : Nat) (a : List UInt8) (hl : n = a.length) (c : Nat) (ha : Bs All w A a) (hn : a.length ≤ big) :
    Calls Try.prog 86 #[.slice A n c] w (RetSLc 1 ByteR w a) := by
  subst hl
  exact clone_cap w A a c ha hn
theorem bs_drop {S : Nat → Prop} {w : World} {A : Option Addr} {l : List UInt8} (h : Bs S w A l) (i : Nat) : Bs S w (Option.map (fun x => x.add i) A) (l.drop i) := by
  have := bs_sub h i (l.length - i)
  rwa [List.take_of_length_le (by rw [List.length_drop]; omega)] at this
theorem bs_take {S : Nat → Prop} {w : World} {A : Option Addr} {l : List UInt8} (h : Bs S w A l) (n : Nat) : Bs S w A (l.take n) := by
  have := bs_sub h 0 n
  rw [List.drop_zero] at this
  cases A with
  | none => exact this
  | some a => obtain ⟨b, off, sp⟩ := a; exact this
set_option maxRecDepth 100000 in
set_option maxHeartbeats 2000000 in
theorem take_ok (w : World) (R : Nat) (s : Rdr) (n : Nat) (h : RdrAt w R s) (hn : n ≤ 255) (hb : s.1.length ≤ 4000) :
    Calls Try.prog 118 #[.pointer (some ⟨R, 0, none⟩), .int .i64 n] w (RetTake w R (takeS s n)) := by
  obtain ⟨A, c, hx, hc, ha⟩ := h.box
  have hR : R < w.heap.size := (Array.getElem?_eq_some_iff.1 hx).1
  obtain ⟨g0, g1, f0, f1⟩ := box2 hx
  have Ha := Lib.hid ha
  have Hx := Lib.hid hx
  have hmk := run_make_row' (P := Try.prog) 23 5 (.int .u8 0) 1 Try.underlying23 info_u8 rfl .i64 .i64 n (by omega) (by omega)
  clear ha h hx
  obtain ⟨l, f⟩ := s
  dsimp only at *
  by_cases hs : f = true ∨ l.length < n
  · have Hv := Lib.hid (show takeS (l, f) n = (List.replicate n 0, (l, true)) by unfold takeS; rw [if_pos hs])
    cases f
    · have h1 : l.length < n := by rcases hs with h | h; cases h; exact h
      clear hs
      go_enter Try.func118, Try.ntmps118
      go_wp2
      go_ret
      rw [Hv.out]
      refine ⟨some ⟨w.heap.size, 0, none⟩, n, by rw [List.length_replicate]; rfl, bs_block (t := 5) ?_ (Nat.le_refl _), ⟨A, c, ?_, hc, ?_⟩, ?_, ?_⟩
      · rw [← made_bytes]
        have := heap_alloc_new (w.setCell ⟨R, 1, none⟩ (.bool true)) (.cells (madeCells #[Value.int .u8 0] n) 5)
        simpa using this
      · rw [heap_alloc_old _ _ (by simpa using hR), heap_setCell_same _ _ _ _ _ _ Hx.out]
        rfl
      · exact Ha.out.bsame (((Same.refl _ _).setCell (by simp) _).alloc _)
      · exact ((Same.refl _ _).setCell (by simp) _).alloc _
      · exact ((Below.refl R w).setCell (p := ⟨R, 1, none⟩) (Nat.le_refl _) (.bool true)).alloc (by simp; omega) _
    · clear hs
      go_enter Try.func118, Try.ntmps118
      go_wp2
      go_ret
      rw [Hv.out]
      refine ⟨some ⟨w.heap.size, 0, none⟩, n, by rw [List.length_replicate]; rfl, bs_block (t := 5) ?_ (Nat.le_refl _), ⟨A, c, ?_, hc, ?_⟩, ?_, ?_⟩
      · rw [← made_bytes]
        have := heap_alloc_new (w.setCell ⟨R, 1, none⟩ (.bool true)) (.cells (madeCells #[Value.int .u8 0] n) 5)
        simpa using this
      · rw [heap_alloc_old _ _ (by simpa using hR), heap_setCell_same _ _ _ _ _ _ Hx.out]
        rfl
      · exact Ha.out.bsame (((Same.refl _ _).setCell (by simp) _).alloc _)
      · exact ((Same.refl _ _).setCell (by simp) _).alloc _
      · exact ((Below.refl R w).setCell (p := ⟨R, 1, none⟩) (Nat.le_refl _) (.bool true)).alloc (by simp; omega) _
  · have hf : f = false := by cases f; rfl; exact absurd (.inl rfl) hs
    subst hf
    have hnl : n ≤ l.length := by omega
    have Hv := Lib.hid (show takeS (l, false) n = (l.take n, (l.drop n, false)) by unfold takeS; rw [if_neg hs])
    have h1 : ¬ l.length < n := by omega
    have s0 : (0 : Int) ≤ (n : Int) := by omega
    have s1 : (n : Int) ≤ (c : Int) := by omega
    have s2 : (n : Int) ≤ (l.length : Int) := by omega
    have s3 : (l.length : Int) ≤ (c : Int) := by omega
    clear hs
    go_enter Try.func118, Try.ntmps118
    go_wp2_with (go_at_call 86; (with_reducible refine (clone_at _ A n (l.take n) ?hn n ?ha ?hb).mono ?_); (case hn => (rw [List.length_take]; omega)); (case hb => (rw [List.length_take]; unfold big; omega)); (case ha => exact ((bs_take Ha.out n).bsame ((Same.refl _ _).setCell (by simp) _)).bz); rintro e w5 ⟨A5, c5, rfl, _, hs5, hb5⟩)
    all_goals
      have hln : (l.take n).length = n := by rw [List.length_take]; omega
      have Hbs := Lib.hid (show Bs (fun b => b < R) w (if c = n then A else Option.map (fun x => x.add n) A) (l.drop n) by
        by_cases hcn : c = n
        · rw [if_pos hcn, List.drop_eq_nil_of_le (by omega)]
          exact SL.nil
        · rw [if_neg hcn]
          exact bs_drop Ha.out n)
      go_ret
      rw [Hv.out]
      refine ⟨A5, c5, ?_, hs5.blo (by simp), ⟨(if c = n then A else Option.map (fun x => x.add n) A), c - n, (hb5.block R (by simpa using hR)).trans ((heap_setCell_same _ _ _ _ _ _ Hx.out).trans ?_), ?_, ?_⟩, ((Same.refl _ _).setCell (by simp) _).trans (Same.of_below hb5), Below.next ((Below.refl R w).setCell (p := ⟨R, 0, none⟩) (Nat.le_refl _) _) hb5 (by simp; omega)⟩
      · show _ = Ending.returned (.slice A5 (l.take n).length c5)
        rw [hln]
        rfl
      · show _ = some (Obj.cells #[.slice (if c = n then A else Option.map (fun x => x.add n) A) (l.drop n).length (c - n), .bool false] 132 (0, 0))
        rw [List.length_drop]
        rfl
      · show (l.drop n).length ≤ c - n
        rw [List.length_drop]
        omega
      · exact Hbs.out.bsame (((Same.refl _ _).setCell (by simp) _).trans (Same.of_below hb5))
/-- The next byte; the reader is further on; all else stays. -/
def RetByte (w : World) (R : Nat) (r : Nat × Rdr) (e : Ending) (w' : World) : Prop :=
  e = .returned (.int .i64 (r.1 : Int)) ∧ RdrAt w' R r.2 ∧ Same (fun b => b ≠ R) w w' ∧ Below R w w'
set_option maxRecDepth 100000 in
set_option maxHeartbeats 2000000 in
theorem byte_ok (w : World) (R : Nat) (s : Rdr) (h : RdrAt w R s) (hb : s.1.length ≤ 4000) :
    Calls Try.prog 117 #[.pointer (some ⟨R, 0, none⟩)] w (RetByte w R (byteS s)) := by
  have H := Lib.hid h
  have hl1 := take_len s 1
  obtain ⟨x, hx⟩ : ∃ x, (takeS s 1).1 = [x] := List.length_eq_one_iff.1 hl1
  have Hv := Lib.hid (show (byteS s).1 = x.toNat by unfold byteS; rw [hx]; rfl)
  have hxl := x.toNat_lt
  clear hl1 h
  go_enter Try.func117, Try.ntmps117
  go_wp2_with (go_at_call 118; refine (take_ok _ R s 1 H.out (by omega) hb).mono ?_; rintro e w1 ⟨B, d, rfl, hs, hr, hsm, hbl⟩; rw [hx] at hs ⊢; obtain ⟨g, off, rfl, hS, hlt, hcell⟩ := hs.bat (k := 0) (by simp); simp only [List.getElem_cons_zero, Nat.add_zero] at hcell)
  go_ret
  exact ⟨by rw [Hv.out]; rfl, hr, hsm, hbl⟩
end Go.Proofs.Ythhcdibimnifaaa
