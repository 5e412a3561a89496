/- Reads: words for memory; what is refused of one; sameness; copies. -/
import Derived.Test.YthhcdibimnifaaaWr
import Derived.Test.YthhcdibimnifaaaRefSame
namespace Go.Proofs.Ythhcdibimnifaaa
open Go.RowKit
set_option linter.unusedVariables false
set_option linter.unusedSimpArgs false

/-- A read is held in the same words as a write: flag is Wide, value is Last. -/
def readFaultS (x : Wr) : Int :=
  if nameFault x.name ≠ 0 then nameFault x.name else if keyFault x.key ≠ 0 then keyFault x.key else if x.flag = true then keyFault x.value else if 0 < x.value.length then 4 else 0
theorem info_rd : (Try.prog.info? 88).map (fun i => (i.zero, i.size, i.bytes)) = some (some (.agg #[.slice none 0 0, .slice none 0 0, .bool false, .slice none 0 0]), 4, 80) := by kernel_rfl
/-- Are two reads the same? -/
def sameRd (x y : Wr) : Bool := x.flag == y.flag && (x.name == y.name && (x.key == y.key && x.value == y.value))
/-- Do two writes go to one place? -/
def samePl (x y : Wr) : Bool := x.name == y.name && x.key == y.key
theorem sameRd_eq (x y : Wr) : sameRd x y = true ↔ x = y := by
  obtain ⟨a, b, c, d⟩ := x
  obtain ⟨a', b', c', d'⟩ := y
  simp only [sameRd, Bool.and_eq_true, beq_iff_eq, Wr.mk.injEq]
  constructor
  · rintro ⟨h1, h2, h3, h4⟩; exact ⟨h2, h3, h1, h4⟩
  · rintro ⟨h2, h3, h1, h4⟩; exact ⟨h1, h2, h3, h4⟩

set_option maxRecDepth 100000 in
set_option maxHeartbeats 1000000 in
theorem readFault_ok (w : World) (A B C : Option Addr) (x : Wr) (a b c : Nat) :
    Calls Try.prog 130 #[.agg #[.slice A x.name.length a, .slice B x.key.length b, .bool x.flag, .slice C x.value.length c]] w (RetV w (.int .i64 (readFaultS x))) := by
  obtain ⟨xn, xk, xf, xv⟩ := x
  obtain ⟨x, hx⟩ : ∃ x : Wr, x = ⟨xn, xk, xf, xv⟩ := ⟨_, rfl⟩
  by_cases h1 : nameFault xn = 0
  · have b_n : (nameFault xn == 0) = true := by simp [h1]
    by_cases h2 : keyFault xk = 0
    · have b_k : (keyFault xk == 0) = true := by simp [h2]
      cases xf with
      | true =>
        by_cases h3 : keyFault xv = 0
        · have b_v : (keyFault xv == 0) = true := by simp [h3]
          have Hv := Lib.hid (show readFaultS ⟨xn, xk, true, xv⟩ = keyFault xv by unfold readFaultS; dsimp only; rw [if_neg (by simpa using h1), if_neg (by simpa using h2), if_pos rfl])
          clear hx x
          clear h1 h2 h3
          go_enter Try.func130, Try.ntmps130
          go_wp2_with (first
    | (go_at_call_of 92 C; refine (keyFault_ok _ C xv c).mono ?_; rintro e w1 ⟨rfl, rfl⟩)
    | (go_at_call 105; refine (nameFault_ok _ A xn a).mono ?_; rintro e w1 ⟨rfl, rfl⟩)
    | (go_at_call 92; refine (keyFault_ok _ B xk b).mono ?_; rintro e w1 ⟨rfl, rfl⟩))
          go_ret
          exact ⟨ret_int (by first | (rw [Hv.out]; done) | (rw [Hv.out]; exact Hk.out)), by repeat' (first | exact Below.refl _ _ | assumption | refine Below.drew ?_ | refine below_drewN ?_ _ | refine Below.setCell ?_ (by first | (simp; done) | omega | (simp; omega)) _ | refine Below.alloc ?_ (by first | exact Nat.le_refl _ | omega | (simp; done) | (simp; omega)) _)⟩
        · have b_v : (keyFault xv == 0) = false := by simpa using h3
          have Hv := Lib.hid (show readFaultS ⟨xn, xk, true, xv⟩ = keyFault xv by unfold readFaultS; dsimp only; rw [if_neg (by simpa using h1), if_neg (by simpa using h2), if_pos rfl])
          clear hx x
          clear h1 h2 h3
          go_enter Try.func130, Try.ntmps130
          go_wp2_with (first
    | (go_at_call_of 92 C; refine (keyFault_ok _ C xv c).mono ?_; rintro e w1 ⟨rfl, rfl⟩)
    | (go_at_call 105; refine (nameFault_ok _ A xn a).mono ?_; rintro e w1 ⟨rfl, rfl⟩)
    | (go_at_call 92; refine (keyFault_ok _ B xk b).mono ?_; rintro e w1 ⟨rfl, rfl⟩))
          go_ret
          exact ⟨ret_int (by first | (rw [Hv.out]; done) | (rw [Hv.out]; exact Hk.out)), by repeat' (first | exact Below.refl _ _ | assumption | refine Below.drew ?_ | refine below_drewN ?_ _ | refine Below.setCell ?_ (by first | (simp; done) | omega | (simp; omega)) _ | refine Below.alloc ?_ (by first | exact Nat.le_refl _ | omega | (simp; done) | (simp; omega)) _)⟩
      | false =>
        by_cases h3 : 0 < xv.length
        · have b_l : decide ((0 : Int) < (xv.length : Int)) = true := by rw [decide_eq_true_eq]; omega
          have Hv := Lib.hid (show readFaultS ⟨xn, xk, false, xv⟩ = 4 by unfold readFaultS; dsimp only; rw [if_neg (by simpa using h1), if_neg (by simpa using h2), if_neg (by decide), if_pos h3])
          clear hx x
          clear h1 h2
          go_enter Try.func130, Try.ntmps130
          go_wp2_with (first
    | (go_at_call_of 92 C; refine (keyFault_ok _ C xv c).mono ?_; rintro e w1 ⟨rfl, rfl⟩)
    | (go_at_call 105; refine (nameFault_ok _ A xn a).mono ?_; rintro e w1 ⟨rfl, rfl⟩)
    | (go_at_call 92; refine (keyFault_ok _ B xk b).mono ?_; rintro e w1 ⟨rfl, rfl⟩))
          go_ret
          exact ⟨ret_int (by first | (rw [Hv.out]; done) | (rw [Hv.out]; exact Hk.out)), by repeat' (first | exact Below.refl _ _ | assumption | refine Below.drew ?_ | refine below_drewN ?_ _ | refine Below.setCell ?_ (by first | (simp; done) | omega | (simp; omega)) _ | refine Below.alloc ?_ (by first | exact Nat.le_refl _ | omega | (simp; done) | (simp; omega)) _)⟩
        · have b_l : decide ((0 : Int) < (xv.length : Int)) = false := by rw [decide_eq_false_iff_not]; omega
          have Hv := Lib.hid (show readFaultS ⟨xn, xk, false, xv⟩ = 0 by unfold readFaultS; dsimp only; rw [if_neg (by simpa using h1), if_neg (by simpa using h2), if_neg (by decide), if_neg h3])
          clear hx x
          have Hk := Lib.hid h2; clear h1 h2
          go_enter Try.func130, Try.ntmps130
          go_wp2_with (first
    | (go_at_call_of 92 C; refine (keyFault_ok _ C xv c).mono ?_; rintro e w1 ⟨rfl, rfl⟩)
    | (go_at_call 105; refine (nameFault_ok _ A xn a).mono ?_; rintro e w1 ⟨rfl, rfl⟩)
    | (go_at_call 92; refine (keyFault_ok _ B xk b).mono ?_; rintro e w1 ⟨rfl, rfl⟩))
          go_ret
          exact ⟨ret_int (by first | (rw [Hv.out]; done) | (rw [Hv.out]; exact Hk.out)), by repeat' (first | exact Below.refl _ _ | assumption | refine Below.drew ?_ | refine below_drewN ?_ _ | refine Below.setCell ?_ (by first | (simp; done) | omega | (simp; omega)) _ | refine Below.alloc ?_ (by first | exact Nat.le_refl _ | omega | (simp; done) | (simp; omega)) _)⟩
    · have b_k : (keyFault xk == 0) = false := by simpa using h2
      have Hv := Lib.hid (show readFaultS ⟨xn, xk, xf, xv⟩ = keyFault xk by unfold readFaultS; dsimp only; rw [if_neg (by simpa using h1), if_pos h2])
      clear hx x
      clear h1 h2
      go_enter Try.func130, Try.ntmps130
      go_wp2_with (first
    | (go_at_call_of 92 C; refine (keyFault_ok _ C xv c).mono ?_; rintro e w1 ⟨rfl, rfl⟩)
    | (go_at_call 105; refine (nameFault_ok _ A xn a).mono ?_; rintro e w1 ⟨rfl, rfl⟩)
    | (go_at_call 92; refine (keyFault_ok _ B xk b).mono ?_; rintro e w1 ⟨rfl, rfl⟩))
      go_ret
      exact ⟨ret_int (by first | (rw [Hv.out]; done) | (rw [Hv.out]; exact Hk.out)), by repeat' (first | exact Below.refl _ _ | assumption | refine Below.drew ?_ | refine below_drewN ?_ _ | refine Below.setCell ?_ (by first | (simp; done) | omega | (simp; omega)) _ | refine Below.alloc ?_ (by first | exact Nat.le_refl _ | omega | (simp; done) | (simp; omega)) _)⟩
  · have b_n : (nameFault xn == 0) = false := by simpa using h1
    have Hv := Lib.hid (show readFaultS ⟨xn, xk, xf, xv⟩ = nameFault xn by unfold readFaultS; dsimp only; rw [if_pos h1])
    clear hx x
    clear h1
    go_enter Try.func130, Try.ntmps130
    go_wp2_with (first
    | (go_at_call_of 92 C; refine (keyFault_ok _ C xv c).mono ?_; rintro e w1 ⟨rfl, rfl⟩)
    | (go_at_call 105; refine (nameFault_ok _ A xn a).mono ?_; rintro e w1 ⟨rfl, rfl⟩)
    | (go_at_call 92; refine (keyFault_ok _ B xk b).mono ?_; rintro e w1 ⟨rfl, rfl⟩))
    go_ret
    exact ⟨ret_int (by first | (rw [Hv.out]; done) | (rw [Hv.out]; exact Hk.out)), by repeat' (first | exact Below.refl _ _ | assumption | refine Below.drew ?_ | refine below_drewN ?_ _ | refine Below.setCell ?_ (by first | (simp; done) | omega | (simp; omega)) _ | refine Below.alloc ?_ (by first | exact Nat.le_refl _ | omega | (simp; done) | (simp; omega)) _)⟩
set_option maxRecDepth 100000 in
set_option maxHeartbeats 1000000 in
theorem shape_ok (w : World) (A B C : Option Addr) (x : Wr) (a b c : Nat) :
    Calls Try.prog 122 #[.agg #[.slice A x.name.length a, .slice B x.key.length b, .bool x.flag, .slice C x.value.length c]] w (RetV w (.int .i64 (readFaultS x))) := by
  obtain ⟨xn, xk, xf, xv⟩ := x
  obtain ⟨x, hx⟩ : ∃ x : Wr, x = ⟨xn, xk, xf, xv⟩ := ⟨_, rfl⟩
  by_cases h1 : nameFault xn = 0
  · have b_n : (nameFault xn != 0) = false := by simp [h1]
    by_cases h2 : keyFault xk = 0
    · have b_k : (keyFault xk != 0) = false := by simp [h2]
      cases xf with
      | true =>
        have Hv := Lib.hid (show readFaultS ⟨xn, xk, true, xv⟩ = keyFault xv by unfold readFaultS; dsimp only; rw [if_neg (by simpa using h1), if_neg (by simpa using h2), if_pos rfl])
        clear hx x
        clear h1 h2
        go_enter Try.func122, Try.ntmps122
        go_wp2_with (first
    | (go_at_call_of 84 C; refine (pathCheck_ok _ C xv c).mono ?_; rintro e w1 ⟨rfl, rfl⟩)
    | (go_at_call 102; refine (forestName_ok _ A xn a).mono ?_; rintro e w1 ⟨rfl, rfl⟩)
    | (go_at_call 84; refine (pathCheck_ok _ B xk b).mono ?_; rintro e w1 ⟨rfl, rfl⟩))
        go_ret
        exact ⟨ret_int (by first | (rw [Hv.out]; done) | (rw [Hv.out]; exact Hk.out)), by repeat' (first | exact Below.refl _ _ | assumption | refine Below.drew ?_ | refine below_drewN ?_ _ | refine Below.setCell ?_ (by first | (simp; done) | omega | (simp; omega)) _ | refine Below.alloc ?_ (by first | exact Nat.le_refl _ | omega | (simp; done) | (simp; omega)) _)⟩
      | false =>
        by_cases h3 : 0 < xv.length
        · have b_l : decide ((0 : Int) < (xv.length : Int)) = true := by rw [decide_eq_true_eq]; omega
          have Hv := Lib.hid (show readFaultS ⟨xn, xk, false, xv⟩ = 4 by unfold readFaultS; dsimp only; rw [if_neg (by simpa using h1), if_neg (by simpa using h2), if_neg (by decide), if_pos h3])
          clear hx x
          clear h1 h2
          go_enter Try.func122, Try.ntmps122
          go_wp2_with (first
    | (go_at_call_of 84 C; refine (pathCheck_ok _ C xv c).mono ?_; rintro e w1 ⟨rfl, rfl⟩)
    | (go_at_call 102; refine (forestName_ok _ A xn a).mono ?_; rintro e w1 ⟨rfl, rfl⟩)
    | (go_at_call 84; refine (pathCheck_ok _ B xk b).mono ?_; rintro e w1 ⟨rfl, rfl⟩))
          go_ret
          exact ⟨ret_int (by first | (rw [Hv.out]; done) | (rw [Hv.out]; exact Hk.out)), by repeat' (first | exact Below.refl _ _ | assumption | refine Below.drew ?_ | refine below_drewN ?_ _ | refine Below.setCell ?_ (by first | (simp; done) | omega | (simp; omega)) _ | refine Below.alloc ?_ (by first | exact Nat.le_refl _ | omega | (simp; done) | (simp; omega)) _)⟩
        · have b_l : decide ((0 : Int) < (xv.length : Int)) = false := by rw [decide_eq_false_iff_not]; omega
          have Hv := Lib.hid (show readFaultS ⟨xn, xk, false, xv⟩ = 0 by unfold readFaultS; dsimp only; rw [if_neg (by simpa using h1), if_neg (by simpa using h2), if_neg (by decide), if_neg h3])
          clear hx x
          have Hk := Lib.hid h2; clear h1 h2
          go_enter Try.func122, Try.ntmps122
          go_wp2_with (first
    | (go_at_call_of 84 C; refine (pathCheck_ok _ C xv c).mono ?_; rintro e w1 ⟨rfl, rfl⟩)
    | (go_at_call 102; refine (forestName_ok _ A xn a).mono ?_; rintro e w1 ⟨rfl, rfl⟩)
    | (go_at_call 84; refine (pathCheck_ok _ B xk b).mono ?_; rintro e w1 ⟨rfl, rfl⟩))
          go_ret
          exact ⟨ret_int (by first | (rw [Hv.out]; done) | (rw [Hv.out]; exact Hk.out)), by repeat' (first | exact Below.refl _ _ | assumption | refine Below.drew ?_ | refine below_drewN ?_ _ | refine Below.setCell ?_ (by first | (simp; done) | omega | (simp; omega)) _ | refine Below.alloc ?_ (by first | exact Nat.le_refl _ | omega | (simp; done) | (simp; omega)) _)⟩
    · have b_k : (keyFault xk != 0) = true := by simpa using h2
      have Hv := Lib.hid (show readFaultS ⟨xn, xk, xf, xv⟩ = keyFault xk by unfold readFaultS; dsimp only; rw [if_neg (by simpa using h1), if_pos h2])
      clear hx x
      clear h1 h2
      go_enter Try.func122, Try.ntmps122
      go_wp2_with (first
    | (go_at_call_of 84 C; refine (pathCheck_ok _ C xv c).mono ?_; rintro e w1 ⟨rfl, rfl⟩)
    | (go_at_call 102; refine (forestName_ok _ A xn a).mono ?_; rintro e w1 ⟨rfl, rfl⟩)
    | (go_at_call 84; refine (pathCheck_ok _ B xk b).mono ?_; rintro e w1 ⟨rfl, rfl⟩))
      go_ret
      exact ⟨ret_int (by first | (rw [Hv.out]; done) | (rw [Hv.out]; exact Hk.out)), by repeat' (first | exact Below.refl _ _ | assumption | refine Below.drew ?_ | refine below_drewN ?_ _ | refine Below.setCell ?_ (by first | (simp; done) | omega | (simp; omega)) _ | refine Below.alloc ?_ (by first | exact Nat.le_refl _ | omega | (simp; done) | (simp; omega)) _)⟩
  · have b_n : (nameFault xn != 0) = true := by simpa using h1
    have Hv := Lib.hid (show readFaultS ⟨xn, xk, xf, xv⟩ = nameFault xn by unfold readFaultS; dsimp only; rw [if_pos h1])
    clear hx x
    clear h1
    go_enter Try.func122, Try.ntmps122
    go_wp2_with (first
    | (go_at_call_of 84 C; refine (pathCheck_ok _ C xv c).mono ?_; rintro e w1 ⟨rfl, rfl⟩)
    | (go_at_call 102; refine (forestName_ok _ A xn a).mono ?_; rintro e w1 ⟨rfl, rfl⟩)
    | (go_at_call 84; refine (pathCheck_ok _ B xk b).mono ?_; rintro e w1 ⟨rfl, rfl⟩))
    go_ret
    exact ⟨ret_int (by first | (rw [Hv.out]; done) | (rw [Hv.out]; exact Hk.out)), by repeat' (first | exact Below.refl _ _ | assumption | refine Below.drew ?_ | refine below_drewN ?_ _ | refine Below.setCell ?_ (by first | (simp; done) | omega | (simp; omega)) _ | refine Below.alloc ?_ (by first | exact Nat.le_refl _ | omega | (simp; done) | (simp; omega)) _)⟩
theorem bytesEqual_ok (w : World) (A B : Option Addr) (a b : List UInt8) (c d : Nat) (ha : Bs All w A a) (hb : Bs All w B b) :
    Calls Try.prog 145 #[.slice A a.length c, .slice B b.length d] w fun e w' => e = .returned (.bool (a == b)) ∧ w = w' := by
  have h1 := conv_str ha 23 9 5 c Try.underlying23 Try.underlying5 Try.underlying9
  have h2 := conv_str hb 23 9 5 d Try.underlying23 Try.underlying5 Try.underlying9
  clear ha hb
  go_enter Try.func145, Try.ntmps145
  go_wp2
  go_ret
  exact ⟨rfl, rfl⟩

set_option maxRecDepth 100000 in
set_option maxHeartbeats 1000000 in
theorem refSameRead_ok (w : World) (A B C A' B' C' : Option Addr) (x y : Wr) (a b c a' b' c' : Nat) (ha : Bs All w A x.name) (hb : Bs All w B x.key) (hc : Bs All w C x.value) (ha' : Bs All w A' y.name) (hb' : Bs All w B' y.key) (hc' : Bs All w C' y.value) :
    Calls Try.prog 131 #[.agg #[.slice A x.name.length a, .slice B x.key.length b, .bool x.flag, .slice C x.value.length c], .agg #[.slice A' y.name.length a', .slice B' y.key.length b', .bool y.flag, .slice C' y.value.length c']] w (RetV w (.bool (sameRd x y))) := by
  have Ha := Lib.hid ha
  have Hb := Lib.hid hb
  have Hc := Lib.hid hc
  have Ha' := Lib.hid ha'
  have Hb' := Lib.hid hb'
  have Hc' := Lib.hid hc'
  clear ha hb hc ha' hb' hc'
  rcases Bool.eq_false_or_eq_true (x.flag == y.flag) with d_flag | d_flag
  ·
    rcases Bool.eq_false_or_eq_true (x.name == y.name) with d_name | d_name
    ·
      rcases Bool.eq_false_or_eq_true (x.key == y.key) with d_key | d_key
      ·
        rcases Bool.eq_false_or_eq_true (x.value == y.value) with d_value | d_value
        ·
          go_enter Try.func131, Try.ntmps131
          go_wp2_with (first
      | (go_at_call_of 89 A; (with_reducible refine (refSameBytes_ok _ A A' x.name y.name a a' ?hx ?hy).mono ?_); (case hx => (refine Ha.out.bbelow ?_; repeat' (first | exact Below.refl _ _ | assumption | refine Below.drew ?_ | refine below_drewN ?_ _ | refine Below.alloc ?_ (by first | exact Nat.le_refl _ | omega | (simp; done) | (simp; omega)) _))); (case hy => (refine Ha'.out.bbelow ?_; repeat' (first | exact Below.refl _ _ | assumption | refine Below.drew ?_ | refine below_drewN ?_ _ | refine Below.alloc ?_ (by first | exact Nat.le_refl _ | omega | (simp; done) | (simp; omega)) _))); rintro e w2 ⟨rfl, rfl⟩)
      | (go_at_call_of 89 B; (with_reducible refine (refSameBytes_ok _ B B' x.key y.key b b' ?hx ?hy).mono ?_); (case hx => (refine Hb.out.bbelow ?_; repeat' (first | exact Below.refl _ _ | assumption | refine Below.drew ?_ | refine below_drewN ?_ _ | refine Below.alloc ?_ (by first | exact Nat.le_refl _ | omega | (simp; done) | (simp; omega)) _))); (case hy => (refine Hb'.out.bbelow ?_; repeat' (first | exact Below.refl _ _ | assumption | refine Below.drew ?_ | refine below_drewN ?_ _ | refine Below.alloc ?_ (by first | exact Nat.le_refl _ | omega | (simp; done) | (simp; omega)) _))); rintro e w2 ⟨rfl, rfl⟩)
      | (go_at_call_of 89 C; (with_reducible refine (refSameBytes_ok _ C C' x.value y.value c c' ?hx ?hy).mono ?_); (case hx => (refine Hc.out.bbelow ?_; repeat' (first | exact Below.refl _ _ | assumption | refine Below.drew ?_ | refine below_drewN ?_ _ | refine Below.alloc ?_ (by first | exact Nat.le_refl _ | omega | (simp; done) | (simp; omega)) _))); (case hy => (refine Hc'.out.bbelow ?_; repeat' (first | exact Below.refl _ _ | assumption | refine Below.drew ?_ | refine below_drewN ?_ _ | refine Below.alloc ?_ (by first | exact Nat.le_refl _ | omega | (simp; done) | (simp; omega)) _))); rintro e w2 ⟨rfl, rfl⟩))
          go_ret
          refine ⟨ret_bool (by simp [sameRd, d_flag, d_name, d_key, d_value]), ?_⟩
          repeat' (first | exact Below.refl _ _ | assumption | refine Below.drew ?_ | refine below_drewN ?_ _ | refine Below.alloc ?_ (by first | exact Nat.le_refl _ | omega | (simp; done) | (simp; omega)) _)
        ·
          go_enter Try.func131, Try.ntmps131
          go_wp2_with (first
      | (go_at_call_of 89 A; (with_reducible refine (refSameBytes_ok _ A A' x.name y.name a a' ?hx ?hy).mono ?_); (case hx => (refine Ha.out.bbelow ?_; repeat' (first | exact Below.refl _ _ | assumption | refine Below.drew ?_ | refine below_drewN ?_ _ | refine Below.alloc ?_ (by first | exact Nat.le_refl _ | omega | (simp; done) | (simp; omega)) _))); (case hy => (refine Ha'.out.bbelow ?_; repeat' (first | exact Below.refl _ _ | assumption | refine Below.drew ?_ | refine below_drewN ?_ _ | refine Below.alloc ?_ (by first | exact Nat.le_refl _ | omega | (simp; done) | (simp; omega)) _))); rintro e w2 ⟨rfl, rfl⟩)
      | (go_at_call_of 89 B; (with_reducible refine (refSameBytes_ok _ B B' x.key y.key b b' ?hx ?hy).mono ?_); (case hx => (refine Hb.out.bbelow ?_; repeat' (first | exact Below.refl _ _ | assumption | refine Below.drew ?_ | refine below_drewN ?_ _ | refine Below.alloc ?_ (by first | exact Nat.le_refl _ | omega | (simp; done) | (simp; omega)) _))); (case hy => (refine Hb'.out.bbelow ?_; repeat' (first | exact Below.refl _ _ | assumption | refine Below.drew ?_ | refine below_drewN ?_ _ | refine Below.alloc ?_ (by first | exact Nat.le_refl _ | omega | (simp; done) | (simp; omega)) _))); rintro e w2 ⟨rfl, rfl⟩)
      | (go_at_call_of 89 C; (with_reducible refine (refSameBytes_ok _ C C' x.value y.value c c' ?hx ?hy).mono ?_); (case hx => (refine Hc.out.bbelow ?_; repeat' (first | exact Below.refl _ _ | assumption | refine Below.drew ?_ | refine below_drewN ?_ _ | refine Below.alloc ?_ (by first | exact Nat.le_refl _ | omega | (simp; done) | (simp; omega)) _))); (case hy => (refine Hc'.out.bbelow ?_; repeat' (first | exact Below.refl _ _ | assumption | refine Below.drew ?_ | refine below_drewN ?_ _ | refine Below.alloc ?_ (by first | exact Nat.le_refl _ | omega | (simp; done) | (simp; omega)) _))); rintro e w2 ⟨rfl, rfl⟩))
          go_ret
          refine ⟨ret_bool (by simp [sameRd, d_flag, d_name, d_key, d_value]), ?_⟩
          repeat' (first | exact Below.refl _ _ | assumption | refine Below.drew ?_ | refine below_drewN ?_ _ | refine Below.alloc ?_ (by first | exact Nat.le_refl _ | omega | (simp; done) | (simp; omega)) _)
      ·
        go_enter Try.func131, Try.ntmps131
        go_wp2_with (first
      | (go_at_call_of 89 A; (with_reducible refine (refSameBytes_ok _ A A' x.name y.name a a' ?hx ?hy).mono ?_); (case hx => (refine Ha.out.bbelow ?_; repeat' (first | exact Below.refl _ _ | assumption | refine Below.drew ?_ | refine below_drewN ?_ _ | refine Below.alloc ?_ (by first | exact Nat.le_refl _ | omega | (simp; done) | (simp; omega)) _))); (case hy => (refine Ha'.out.bbelow ?_; repeat' (first | exact Below.refl _ _ | assumption | refine Below.drew ?_ | refine below_drewN ?_ _ | refine Below.alloc ?_ (by first | exact Nat.le_refl _ | omega | (simp; done) | (simp; omega)) _))); rintro e w2 ⟨rfl, rfl⟩)
      | (go_at_call_of 89 B; (with_reducible refine (refSameBytes_ok _ B B' x.key y.key b b' ?hx ?hy).mono ?_); (case hx => (refine Hb.out.bbelow ?_; repeat' (first | exact Below.refl _ _ | assumption | refine Below.drew ?_ | refine below_drewN ?_ _ | refine Below.alloc ?_ (by first | exact Nat.le_refl _ | omega | (simp; done) | (simp; omega)) _))); (case hy => (refine Hb'.out.bbelow ?_; repeat' (first | exact Below.refl _ _ | assumption | refine Below.drew ?_ | refine below_drewN ?_ _ | refine Below.alloc ?_ (by first | exact Nat.le_refl _ | omega | (simp; done) | (simp; omega)) _))); rintro e w2 ⟨rfl, rfl⟩)
      | (go_at_call_of 89 C; (with_reducible refine (refSameBytes_ok _ C C' x.value y.value c c' ?hx ?hy).mono ?_); (case hx => (refine Hc.out.bbelow ?_; repeat' (first | exact Below.refl _ _ | assumption | refine Below.drew ?_ | refine below_drewN ?_ _ | refine Below.alloc ?_ (by first | exact Nat.le_refl _ | omega | (simp; done) | (simp; omega)) _))); (case hy => (refine Hc'.out.bbelow ?_; repeat' (first | exact Below.refl _ _ | assumption | refine Below.drew ?_ | refine below_drewN ?_ _ | refine Below.alloc ?_ (by first | exact Nat.le_refl _ | omega | (simp; done) | (simp; omega)) _))); rintro e w2 ⟨rfl, rfl⟩))
        go_ret
        refine ⟨ret_bool (by simp [sameRd, d_flag, d_name, d_key]), ?_⟩
        repeat' (first | exact Below.refl _ _ | assumption | refine Below.drew ?_ | refine below_drewN ?_ _ | refine Below.alloc ?_ (by first | exact Nat.le_refl _ | omega | (simp; done) | (simp; omega)) _)
    ·
      go_enter Try.func131, Try.ntmps131
      go_wp2_with (first
      | (go_at_call_of 89 A; (with_reducible refine (refSameBytes_ok _ A A' x.name y.name a a' ?hx ?hy).mono ?_); (case hx => (refine Ha.out.bbelow ?_; repeat' (first | exact Below.refl _ _ | assumption | refine Below.drew ?_ | refine below_drewN ?_ _ | refine Below.alloc ?_ (by first | exact Nat.le_refl _ | omega | (simp; done) | (simp; omega)) _))); (case hy => (refine Ha'.out.bbelow ?_; repeat' (first | exact Below.refl _ _ | assumption | refine Below.drew ?_ | refine below_drewN ?_ _ | refine Below.alloc ?_ (by first | exact Nat.le_refl _ | omega | (simp; done) | (simp; omega)) _))); rintro e w2 ⟨rfl, rfl⟩)
      | (go_at_call_of 89 B; (with_reducible refine (refSameBytes_ok _ B B' x.key y.key b b' ?hx ?hy).mono ?_); (case hx => (refine Hb.out.bbelow ?_; repeat' (first | exact Below.refl _ _ | assumption | refine Below.drew ?_ | refine below_drewN ?_ _ | refine Below.alloc ?_ (by first | exact Nat.le_refl _ | omega | (simp; done) | (simp; omega)) _))); (case hy => (refine Hb'.out.bbelow ?_; repeat' (first | exact Below.refl _ _ | assumption | refine Below.drew ?_ | refine below_drewN ?_ _ | refine Below.alloc ?_ (by first | exact Nat.le_refl _ | omega | (simp; done) | (simp; omega)) _))); rintro e w2 ⟨rfl, rfl⟩)
      | (go_at_call_of 89 C; (with_reducible refine (refSameBytes_ok _ C C' x.value y.value c c' ?hx ?hy).mono ?_); (case hx => (refine Hc.out.bbelow ?_; repeat' (first | exact Below.refl _ _ | assumption | refine Below.drew ?_ | refine below_drewN ?_ _ | refine Below.alloc ?_ (by first | exact Nat.le_refl _ | omega | (simp; done) | (simp; omega)) _))); (case hy => (refine Hc'.out.bbelow ?_; repeat' (first | exact Below.refl _ _ | assumption | refine Below.drew ?_ | refine below_drewN ?_ _ | refine Below.alloc ?_ (by first | exact Nat.le_refl _ | omega | (simp; done) | (simp; omega)) _))); rintro e w2 ⟨rfl, rfl⟩))
      go_ret
      refine ⟨ret_bool (by simp [sameRd, d_flag, d_name]), ?_⟩
      repeat' (first | exact Below.refl _ _ | assumption | refine Below.drew ?_ | refine below_drewN ?_ _ | refine Below.alloc ?_ (by first | exact Nat.le_refl _ | omega | (simp; done) | (simp; omega)) _)
  ·
    go_enter Try.func131, Try.ntmps131
    go_wp2_with (first
      | (go_at_call_of 89 A; (with_reducible refine (refSameBytes_ok _ A A' x.name y.name a a' ?hx ?hy).mono ?_); (case hx => (refine Ha.out.bbelow ?_; repeat' (first | exact Below.refl _ _ | assumption | refine Below.drew ?_ | refine below_drewN ?_ _ | refine Below.alloc ?_ (by first | exact Nat.le_refl _ | omega | (simp; done) | (simp; omega)) _))); (case hy => (refine Ha'.out.bbelow ?_; repeat' (first | exact Below.refl _ _ | assumption | refine Below.drew ?_ | refine below_drewN ?_ _ | refine Below.alloc ?_ (by first | exact Nat.le_refl _ | omega | (simp; done) | (simp; omega)) _))); rintro e w2 ⟨rfl, rfl⟩)
      | (go_at_call_of 89 B; (with_reducible refine (refSameBytes_ok _ B B' x.key y.key b b' ?hx ?hy).mono ?_); (case hx => (refine Hb.out.bbelow ?_; repeat' (first | exact Below.refl _ _ | assumption | refine Below.drew ?_ | refine below_drewN ?_ _ | refine Below.alloc ?_ (by first | exact Nat.le_refl _ | omega | (simp; done) | (simp; omega)) _))); (case hy => (refine Hb'.out.bbelow ?_; repeat' (first | exact Below.refl _ _ | assumption | refine Below.drew ?_ | refine below_drewN ?_ _ | refine Below.alloc ?_ (by first | exact Nat.le_refl _ | omega | (simp; done) | (simp; omega)) _))); rintro e w2 ⟨rfl, rfl⟩)
      | (go_at_call_of 89 C; (with_reducible refine (refSameBytes_ok _ C C' x.value y.value c c' ?hx ?hy).mono ?_); (case hx => (refine Hc.out.bbelow ?_; repeat' (first | exact Below.refl _ _ | assumption | refine Below.drew ?_ | refine below_drewN ?_ _ | refine Below.alloc ?_ (by first | exact Nat.le_refl _ | omega | (simp; done) | (simp; omega)) _))); (case hy => (refine Hc'.out.bbelow ?_; repeat' (first | exact Below.refl _ _ | assumption | refine Below.drew ?_ | refine below_drewN ?_ _ | refine Below.alloc ?_ (by first | exact Nat.le_refl _ | omega | (simp; done) | (simp; omega)) _))); rintro e w2 ⟨rfl, rfl⟩))
    go_ret
    refine ⟨ret_bool (by simp [sameRd, d_flag]), ?_⟩
    repeat' (first | exact Below.refl _ _ | assumption | refine Below.drew ?_ | refine below_drewN ?_ _ | refine Below.alloc ?_ (by first | exact Nat.le_refl _ | omega | (simp; done) | (simp; omega)) _)
set_option maxRecDepth 100000 in
set_option maxHeartbeats 1000000 in
theorem progSameRead_ok (w : World) (A B C A' B' C' : Option Addr) (x y : Wr) (a b c a' b' c' : Nat) (ha : Bs All w A x.name) (hb : Bs All w B x.key) (hc : Bs All w C x.value) (ha' : Bs All w A' y.name) (hb' : Bs All w B' y.key) (hc' : Bs All w C' y.value) :
    Calls Try.prog 125 #[.agg #[.slice A x.name.length a, .slice B x.key.length b, .bool x.flag, .slice C x.value.length c], .agg #[.slice A' y.name.length a', .slice B' y.key.length b', .bool y.flag, .slice C' y.value.length c']] w (RetV w (.bool (sameRd x y))) := by
  have Ha := Lib.hid ha
  have Hb := Lib.hid hb
  have Hc := Lib.hid hc
  have Ha' := Lib.hid ha'
  have Hb' := Lib.hid hb'
  have Hc' := Lib.hid hc'
  clear ha hb hc ha' hb' hc'
  rcases Bool.eq_false_or_eq_true (x.flag == y.flag) with d_flag | d_flag
  ·
    rcases Bool.eq_false_or_eq_true (x.name == y.name) with d_name | d_name
    ·
      rcases Bool.eq_false_or_eq_true (x.key == y.key) with d_key | d_key
      ·
        rcases Bool.eq_false_or_eq_true (x.value == y.value) with d_value | d_value
        ·
          go_enter Try.func125, Try.ntmps125
          go_wp2_with (first
      | (go_at_call_of 145 A; (with_reducible refine (bytesEqual_ok _ A A' x.name y.name a a' ?hx ?hy).mono ?_); (case hx => (refine Ha.out.bbelow ?_; repeat' (first | exact Below.refl _ _ | assumption | refine Below.drew ?_ | refine below_drewN ?_ _ | refine Below.alloc ?_ (by first | exact Nat.le_refl _ | omega | (simp; done) | (simp; omega)) _))); (case hy => (refine Ha'.out.bbelow ?_; repeat' (first | exact Below.refl _ _ | assumption | refine Below.drew ?_ | refine below_drewN ?_ _ | refine Below.alloc ?_ (by first | exact Nat.le_refl _ | omega | (simp; done) | (simp; omega)) _))); rintro e w2 ⟨rfl, rfl⟩)
      | (go_at_call_of 145 B; (with_reducible refine (bytesEqual_ok _ B B' x.key y.key b b' ?hx ?hy).mono ?_); (case hx => (refine Hb.out.bbelow ?_; repeat' (first | exact Below.refl _ _ | assumption | refine Below.drew ?_ | refine below_drewN ?_ _ | refine Below.alloc ?_ (by first | exact Nat.le_refl _ | omega | (simp; done) | (simp; omega)) _))); (case hy => (refine Hb'.out.bbelow ?_; repeat' (first | exact Below.refl _ _ | assumption | refine Below.drew ?_ | refine below_drewN ?_ _ | refine Below.alloc ?_ (by first | exact Nat.le_refl _ | omega | (simp; done) | (simp; omega)) _))); rintro e w2 ⟨rfl, rfl⟩)
      | (go_at_call_of 145 C; (with_reducible refine (bytesEqual_ok _ C C' x.value y.value c c' ?hx ?hy).mono ?_); (case hx => (refine Hc.out.bbelow ?_; repeat' (first | exact Below.refl _ _ | assumption | refine Below.drew ?_ | refine below_drewN ?_ _ | refine Below.alloc ?_ (by first | exact Nat.le_refl _ | omega | (simp; done) | (simp; omega)) _))); (case hy => (refine Hc'.out.bbelow ?_; repeat' (first | exact Below.refl _ _ | assumption | refine Below.drew ?_ | refine below_drewN ?_ _ | refine Below.alloc ?_ (by first | exact Nat.le_refl _ | omega | (simp; done) | (simp; omega)) _))); rintro e w2 ⟨rfl, rfl⟩))
          go_ret
          refine ⟨ret_bool (by simp [sameRd, d_flag, d_name, d_key, d_value]), ?_⟩
          repeat' (first | exact Below.refl _ _ | assumption | refine Below.drew ?_ | refine below_drewN ?_ _ | refine Below.alloc ?_ (by first | exact Nat.le_refl _ | omega | (simp; done) | (simp; omega)) _)
        ·
          go_enter Try.func125, Try.ntmps125
          go_wp2_with (first
      | (go_at_call_of 145 A; (with_reducible refine (bytesEqual_ok _ A A' x.name y.name a a' ?hx ?hy).mono ?_); (case hx => (refine Ha.out.bbelow ?_; repeat' (first | exact Below.refl _ _ | assumption | refine Below.drew ?_ | refine below_drewN ?_ _ | refine Below.alloc ?_ (by first | exact Nat.le_refl _ | omega | (simp; done) | (simp; omega)) _))); (case hy => (refine Ha'.out.bbelow ?_; repeat' (first | exact Below.refl _ _ | assumption | refine Below.drew ?_ | refine below_drewN ?_ _ | refine Below.alloc ?_ (by first | exact Nat.le_refl _ | omega | (simp; done) | (simp; omega)) _))); rintro e w2 ⟨rfl, rfl⟩)
      | (go_at_call_of 145 B; (with_reducible refine (bytesEqual_ok _ B B' x.key y.key b b' ?hx ?hy).mono ?_); (case hx => (refine Hb.out.bbelow ?_; repeat' (first | exact Below.refl _ _ | assumption | refine Below.drew ?_ | refine below_drewN ?_ _ | refine Below.alloc ?_ (by first | exact Nat.le_refl _ | omega | (simp; done) | (simp; omega)) _))); (case hy => (refine Hb'.out.bbelow ?_; repeat' (first | exact Below.refl _ _ | assumption | refine Below.drew ?_ | refine below_drewN ?_ _ | refine Below.alloc ?_ (by first | exact Nat.le_refl _ | omega | (simp; done) | (simp; omega)) _))); rintro e w2 ⟨rfl, rfl⟩)
      | (go_at_call_of 145 C; (with_reducible refine (bytesEqual_ok _ C C' x.value y.value c c' ?hx ?hy).mono ?_); (case hx => (refine Hc.out.bbelow ?_; repeat' (first | exact Below.refl _ _ | assumption | refine Below.drew ?_ | refine below_drewN ?_ _ | refine Below.alloc ?_ (by first | exact Nat.le_refl _ | omega | (simp; done) | (simp; omega)) _))); (case hy => (refine Hc'.out.bbelow ?_; repeat' (first | exact Below.refl _ _ | assumption | refine Below.drew ?_ | refine below_drewN ?_ _ | refine Below.alloc ?_ (by first | exact Nat.le_refl _ | omega | (simp; done) | (simp; omega)) _))); rintro e w2 ⟨rfl, rfl⟩))
          go_ret
          refine ⟨ret_bool (by simp [sameRd, d_flag, d_name, d_key, d_value]), ?_⟩
          repeat' (first | exact Below.refl _ _ | assumption | refine Below.drew ?_ | refine below_drewN ?_ _ | refine Below.alloc ?_ (by first | exact Nat.le_refl _ | omega | (simp; done) | (simp; omega)) _)
      ·
        go_enter Try.func125, Try.ntmps125
        go_wp2_with (first
      | (go_at_call_of 145 A; (with_reducible refine (bytesEqual_ok _ A A' x.name y.name a a' ?hx ?hy).mono ?_); (case hx => (refine Ha.out.bbelow ?_; repeat' (first | exact Below.refl _ _ | assumption | refine Below.drew ?_ | refine below_drewN ?_ _ | refine Below.alloc ?_ (by first | exact Nat.le_refl _ | omega | (simp; done) | (simp; omega)) _))); (case hy => (refine Ha'.out.bbelow ?_; repeat' (first | exact Below.refl _ _ | assumption | refine Below.drew ?_ | refine below_drewN ?_ _ | refine Below.alloc ?_ (by first | exact Nat.le_refl _ | omega | (simp; done) | (simp; omega)) _))); rintro e w2 ⟨rfl, rfl⟩)
      | (go_at_call_of 145 B; (with_reducible refine (bytesEqual_ok _ B B' x.key y.key b b' ?hx ?hy).mono ?_); (case hx => (refine Hb.out.bbelow ?_; repeat' (first | exact Below.refl _ _ | assumption | refine Below.drew ?_ | refine below_drewN ?_ _ | refine Below.alloc ?_ (by first | exact Nat.le_refl _ | omega | (simp; done) | (simp; omega)) _))); (case hy => (refine Hb'.out.bbelow ?_; repeat' (first | exact Below.refl _ _ | assumption | refine Below.drew ?_ | refine below_drewN ?_ _ | refine Below.alloc ?_ (by first | exact Nat.le_refl _ | omega | (simp; done) | (simp; omega)) _))); rintro e w2 ⟨rfl, rfl⟩)
      | (go_at_call_of 145 C; (with_reducible refine (bytesEqual_ok _ C C' x.value y.value c c' ?hx ?hy).mono ?_); (case hx => (refine Hc.out.bbelow ?_; repeat' (first | exact Below.refl _ _ | assumption | refine Below.drew ?_ | refine below_drewN ?_ _ | refine Below.alloc ?_ (by first | exact Nat.le_refl _ | omega | (simp; done) | (simp; omega)) _))); (case hy => (refine Hc'.out.bbelow ?_; repeat' (first | exact Below.refl _ _ | assumption | refine Below.drew ?_ | refine below_drewN ?_ _ | refine Below.alloc ?_ (by first | exact Nat.le_refl _ | omega | (simp; done) | (simp; omega)) _))); rintro e w2 ⟨rfl, rfl⟩))
        go_ret
        refine ⟨ret_bool (by simp [sameRd, d_flag, d_name, d_key]), ?_⟩
        repeat' (first | exact Below.refl _ _ | assumption | refine Below.drew ?_ | refine below_drewN ?_ _ | refine Below.alloc ?_ (by first | exact Nat.le_refl _ | omega | (simp; done) | (simp; omega)) _)
    ·
      go_enter Try.func125, Try.ntmps125
      go_wp2_with (first
      | (go_at_call_of 145 A; (with_reducible refine (bytesEqual_ok _ A A' x.name y.name a a' ?hx ?hy).mono ?_); (case hx => (refine Ha.out.bbelow ?_; repeat' (first | exact Below.refl _ _ | assumption | refine Below.drew ?_ | refine below_drewN ?_ _ | refine Below.alloc ?_ (by first | exact Nat.le_refl _ | omega | (simp; done) | (simp; omega)) _))); (case hy => (refine Ha'.out.bbelow ?_; repeat' (first | exact Below.refl _ _ | assumption | refine Below.drew ?_ | refine below_drewN ?_ _ | refine Below.alloc ?_ (by first | exact Nat.le_refl _ | omega | (simp; done) | (simp; omega)) _))); rintro e w2 ⟨rfl, rfl⟩)
      | (go_at_call_of 145 B; (with_reducible refine (bytesEqual_ok _ B B' x.key y.key b b' ?hx ?hy).mono ?_); (case hx => (refine Hb.out.bbelow ?_; repeat' (first | exact Below.refl _ _ | assumption | refine Below.drew ?_ | refine below_drewN ?_ _ | refine Below.alloc ?_ (by first | exact Nat.le_refl _ | omega | (simp; done) | (simp; omega)) _))); (case hy => (refine Hb'.out.bbelow ?_; repeat' (first | exact Below.refl _ _ | assumption | refine Below.drew ?_ | refine below_drewN ?_ _ | refine Below.alloc ?_ (by first | exact Nat.le_refl _ | omega | (simp; done) | (simp; omega)) _))); rintro e w2 ⟨rfl, rfl⟩)
      | (go_at_call_of 145 C; (with_reducible refine (bytesEqual_ok _ C C' x.value y.value c c' ?hx ?hy).mono ?_); (case hx => (refine Hc.out.bbelow ?_; repeat' (first | exact Below.refl _ _ | assumption | refine Below.drew ?_ | refine below_drewN ?_ _ | refine Below.alloc ?_ (by first | exact Nat.le_refl _ | omega | (simp; done) | (simp; omega)) _))); (case hy => (refine Hc'.out.bbelow ?_; repeat' (first | exact Below.refl _ _ | assumption | refine Below.drew ?_ | refine below_drewN ?_ _ | refine Below.alloc ?_ (by first | exact Nat.le_refl _ | omega | (simp; done) | (simp; omega)) _))); rintro e w2 ⟨rfl, rfl⟩))
      go_ret
      refine ⟨ret_bool (by simp [sameRd, d_flag, d_name]), ?_⟩
      repeat' (first | exact Below.refl _ _ | assumption | refine Below.drew ?_ | refine below_drewN ?_ _ | refine Below.alloc ?_ (by first | exact Nat.le_refl _ | omega | (simp; done) | (simp; omega)) _)
  ·
    go_enter Try.func125, Try.ntmps125
    go_wp2_with (first
      | (go_at_call_of 145 A; (with_reducible refine (bytesEqual_ok _ A A' x.name y.name a a' ?hx ?hy).mono ?_); (case hx => (refine Ha.out.bbelow ?_; repeat' (first | exact Below.refl _ _ | assumption | refine Below.drew ?_ | refine below_drewN ?_ _ | refine Below.alloc ?_ (by first | exact Nat.le_refl _ | omega | (simp; done) | (simp; omega)) _))); (case hy => (refine Ha'.out.bbelow ?_; repeat' (first | exact Below.refl _ _ | assumption | refine Below.drew ?_ | refine below_drewN ?_ _ | refine Below.alloc ?_ (by first | exact Nat.le_refl _ | omega | (simp; done) | (simp; omega)) _))); rintro e w2 ⟨rfl, rfl⟩)
      | (go_at_call_of 145 B; (with_reducible refine (bytesEqual_ok _ B B' x.key y.key b b' ?hx ?hy).mono ?_); (case hx => (refine Hb.out.bbelow ?_; repeat' (first | exact Below.refl _ _ | assumption | refine Below.drew ?_ | refine below_drewN ?_ _ | refine Below.alloc ?_ (by first | exact Nat.le_refl _ | omega | (simp; done) | (simp; omega)) _))); (case hy => (refine Hb'.out.bbelow ?_; repeat' (first | exact Below.refl _ _ | assumption | refine Below.drew ?_ | refine below_drewN ?_ _ | refine Below.alloc ?_ (by first | exact Nat.le_refl _ | omega | (simp; done) | (simp; omega)) _))); rintro e w2 ⟨rfl, rfl⟩)
      | (go_at_call_of 145 C; (with_reducible refine (bytesEqual_ok _ C C' x.value y.value c c' ?hx ?hy).mono ?_); (case hx => (refine Hc.out.bbelow ?_; repeat' (first | exact Below.refl _ _ | assumption | refine Below.drew ?_ | refine below_drewN ?_ _ | refine Below.alloc ?_ (by first | exact Nat.le_refl _ | omega | (simp; done) | (simp; omega)) _))); (case hy => (refine Hc'.out.bbelow ?_; repeat' (first | exact Below.refl _ _ | assumption | refine Below.drew ?_ | refine below_drewN ?_ _ | refine Below.alloc ?_ (by first | exact Nat.le_refl _ | omega | (simp; done) | (simp; omega)) _))); rintro e w2 ⟨rfl, rfl⟩))
    go_ret
    refine ⟨ret_bool (by simp [sameRd, d_flag]), ?_⟩
    repeat' (first | exact Below.refl _ _ | assumption | refine Below.drew ?_ | refine below_drewN ?_ _ | refine Below.alloc ?_ (by first | exact Nat.le_refl _ | omega | (simp; done) | (simp; omega)) _)
set_option maxRecDepth 100000 in
set_option maxHeartbeats 1000000 in
theorem refSamePlace_ok (w : World) (A B C A' B' C' : Option Addr) (x y : Wr) (a b c a' b' c' : Nat) (ha : Bs All w A x.name) (hb : Bs All w B x.key) (hc : Bs All w C x.value) (ha' : Bs All w A' y.name) (hb' : Bs All w B' y.key) (hc' : Bs All w C' y.value) :
    Calls Try.prog 132 #[.agg #[.slice A x.name.length a, .slice B x.key.length b, .bool x.flag, .slice C x.value.length c], .agg #[.slice A' y.name.length a', .slice B' y.key.length b', .bool y.flag, .slice C' y.value.length c']] w (RetV w (.bool (samePl x y))) := by
  have Ha := Lib.hid ha
  have Hb := Lib.hid hb
  have Hc := Lib.hid hc
  have Ha' := Lib.hid ha'
  have Hb' := Lib.hid hb'
  have Hc' := Lib.hid hc'
  clear ha hb hc ha' hb' hc'
  rcases Bool.eq_false_or_eq_true (x.name == y.name) with d_name | d_name
  ·
    rcases Bool.eq_false_or_eq_true (x.key == y.key) with d_key | d_key
    ·
      go_enter Try.func132, Try.ntmps132
      go_wp2_with (first
      | (go_at_call_of 89 A; (with_reducible refine (refSameBytes_ok _ A A' x.name y.name a a' ?hx ?hy).mono ?_); (case hx => (refine Ha.out.bbelow ?_; repeat' (first | exact Below.refl _ _ | assumption | refine Below.drew ?_ | refine below_drewN ?_ _ | refine Below.alloc ?_ (by first | exact Nat.le_refl _ | omega | (simp; done) | (simp; omega)) _))); (case hy => (refine Ha'.out.bbelow ?_; repeat' (first | exact Below.refl _ _ | assumption | refine Below.drew ?_ | refine below_drewN ?_ _ | refine Below.alloc ?_ (by first | exact Nat.le_refl _ | omega | (simp; done) | (simp; omega)) _))); rintro e w2 ⟨rfl, rfl⟩)
      | (go_at_call_of 89 B; (with_reducible refine (refSameBytes_ok _ B B' x.key y.key b b' ?hx ?hy).mono ?_); (case hx => (refine Hb.out.bbelow ?_; repeat' (first | exact Below.refl _ _ | assumption | refine Below.drew ?_ | refine below_drewN ?_ _ | refine Below.alloc ?_ (by first | exact Nat.le_refl _ | omega | (simp; done) | (simp; omega)) _))); (case hy => (refine Hb'.out.bbelow ?_; repeat' (first | exact Below.refl _ _ | assumption | refine Below.drew ?_ | refine below_drewN ?_ _ | refine Below.alloc ?_ (by first | exact Nat.le_refl _ | omega | (simp; done) | (simp; omega)) _))); rintro e w2 ⟨rfl, rfl⟩))
      go_ret
      refine ⟨ret_bool (by simp [samePl, d_name, d_key]), ?_⟩
      repeat' (first | exact Below.refl _ _ | assumption | refine Below.drew ?_ | refine below_drewN ?_ _ | refine Below.alloc ?_ (by first | exact Nat.le_refl _ | omega | (simp; done) | (simp; omega)) _)
    ·
      go_enter Try.func132, Try.ntmps132
      go_wp2_with (first
      | (go_at_call_of 89 A; (with_reducible refine (refSameBytes_ok _ A A' x.name y.name a a' ?hx ?hy).mono ?_); (case hx => (refine Ha.out.bbelow ?_; repeat' (first | exact Below.refl _ _ | assumption | refine Below.drew ?_ | refine below_drewN ?_ _ | refine Below.alloc ?_ (by first | exact Nat.le_refl _ | omega | (simp; done) | (simp; omega)) _))); (case hy => (refine Ha'.out.bbelow ?_; repeat' (first | exact Below.refl _ _ | assumption | refine Below.drew ?_ | refine below_drewN ?_ _ | refine Below.alloc ?_ (by first | exact Nat.le_refl _ | omega | (simp; done) | (simp; omega)) _))); rintro e w2 ⟨rfl, rfl⟩)
      | (go_at_call_of 89 B; (with_reducible refine (refSameBytes_ok _ B B' x.key y.key b b' ?hx ?hy).mono ?_); (case hx => (refine Hb.out.bbelow ?_; repeat' (first | exact Below.refl _ _ | assumption | refine Below.drew ?_ | refine below_drewN ?_ _ | refine Below.alloc ?_ (by first | exact Nat.le_refl _ | omega | (simp; done) | (simp; omega)) _))); (case hy => (refine Hb'.out.bbelow ?_; repeat' (first | exact Below.refl _ _ | assumption | refine Below.drew ?_ | refine below_drewN ?_ _ | refine Below.alloc ?_ (by first | exact Nat.le_refl _ | omega | (simp; done) | (simp; omega)) _))); rintro e w2 ⟨rfl, rfl⟩))
      go_ret
      refine ⟨ret_bool (by simp [samePl, d_name, d_key]), ?_⟩
      repeat' (first | exact Below.refl _ _ | assumption | refine Below.drew ?_ | refine below_drewN ?_ _ | refine Below.alloc ?_ (by first | exact Nat.le_refl _ | omega | (simp; done) | (simp; omega)) _)
  ·
    go_enter Try.func132, Try.ntmps132
    go_wp2_with (first
      | (go_at_call_of 89 A; (with_reducible refine (refSameBytes_ok _ A A' x.name y.name a a' ?hx ?hy).mono ?_); (case hx => (refine Ha.out.bbelow ?_; repeat' (first | exact Below.refl _ _ | assumption | refine Below.drew ?_ | refine below_drewN ?_ _ | refine Below.alloc ?_ (by first | exact Nat.le_refl _ | omega | (simp; done) | (simp; omega)) _))); (case hy => (refine Ha'.out.bbelow ?_; repeat' (first | exact Below.refl _ _ | assumption | refine Below.drew ?_ | refine below_drewN ?_ _ | refine Below.alloc ?_ (by first | exact Nat.le_refl _ | omega | (simp; done) | (simp; omega)) _))); rintro e w2 ⟨rfl, rfl⟩)
      | (go_at_call_of 89 B; (with_reducible refine (refSameBytes_ok _ B B' x.key y.key b b' ?hx ?hy).mono ?_); (case hx => (refine Hb.out.bbelow ?_; repeat' (first | exact Below.refl _ _ | assumption | refine Below.drew ?_ | refine below_drewN ?_ _ | refine Below.alloc ?_ (by first | exact Nat.le_refl _ | omega | (simp; done) | (simp; omega)) _))); (case hy => (refine Hb'.out.bbelow ?_; repeat' (first | exact Below.refl _ _ | assumption | refine Below.drew ?_ | refine below_drewN ?_ _ | refine Below.alloc ?_ (by first | exact Nat.le_refl _ | omega | (simp; done) | (simp; omega)) _))); rintro e w2 ⟨rfl, rfl⟩))
    go_ret
    refine ⟨ret_bool (by simp [samePl, d_name]), ?_⟩
    repeat' (first | exact Below.refl _ _ | assumption | refine Below.drew ?_ | refine below_drewN ?_ _ | refine Below.alloc ?_ (by first | exact Nat.le_refl _ | omega | (simp; done) | (simp; omega)) _)
set_option maxRecDepth 100000 in
set_option maxHeartbeats 1000000 in
theorem progSamePlace_ok (w : World) (A B C A' B' C' : Option Addr) (x y : Wr) (a b c a' b' c' : Nat) (ha : Bs All w A x.name) (hb : Bs All w B x.key) (hc : Bs All w C x.value) (ha' : Bs All w A' y.name) (hb' : Bs All w B' y.key) (hc' : Bs All w C' y.value) :
    Calls Try.prog 129 #[.agg #[.slice A x.name.length a, .slice B x.key.length b, .bool x.flag, .slice C x.value.length c], .agg #[.slice A' y.name.length a', .slice B' y.key.length b', .bool y.flag, .slice C' y.value.length c']] w (RetV w (.bool (samePl x y))) := by
  have Ha := Lib.hid ha
  have Hb := Lib.hid hb
  have Hc := Lib.hid hc
  have Ha' := Lib.hid ha'
  have Hb' := Lib.hid hb'
  have Hc' := Lib.hid hc'
  clear ha hb hc ha' hb' hc'
  rcases Bool.eq_false_or_eq_true (x.name == y.name) with d_name | d_name
  ·
    rcases Bool.eq_false_or_eq_true (x.key == y.key) with d_key | d_key
    ·
      go_enter Try.func129, Try.ntmps129
      go_wp2_with (first
      | (go_at_call_of 145 A; (with_reducible refine (bytesEqual_ok _ A A' x.name y.name a a' ?hx ?hy).mono ?_); (case hx => (refine Ha.out.bbelow ?_; repeat' (first | exact Below.refl _ _ | assumption | refine Below.drew ?_ | refine below_drewN ?_ _ | refine Below.alloc ?_ (by first | exact Nat.le_refl _ | omega | (simp; done) | (simp; omega)) _))); (case hy => (refine Ha'.out.bbelow ?_; repeat' (first | exact Below.refl _ _ | assumption | refine Below.drew ?_ | refine below_drewN ?_ _ | refine Below.alloc ?_ (by first | exact Nat.le_refl _ | omega | (simp; done) | (simp; omega)) _))); rintro e w2 ⟨rfl, rfl⟩)
      | (go_at_call_of 145 B; (with_reducible refine (bytesEqual_ok _ B B' x.key y.key b b' ?hx ?hy).mono ?_); (case hx => (refine Hb.out.bbelow ?_; repeat' (first | exact Below.refl _ _ | assumption | refine Below.drew ?_ | refine below_drewN ?_ _ | refine Below.alloc ?_ (by first | exact Nat.le_refl _ | omega | (simp; done) | (simp; omega)) _))); (case hy => (refine Hb'.out.bbelow ?_; repeat' (first | exact Below.refl _ _ | assumption | refine Below.drew ?_ | refine below_drewN ?_ _ | refine Below.alloc ?_ (by first | exact Nat.le_refl _ | omega | (simp; done) | (simp; omega)) _))); rintro e w2 ⟨rfl, rfl⟩))
      go_ret
      refine ⟨ret_bool (by simp [samePl, d_name, d_key]), ?_⟩
      repeat' (first | exact Below.refl _ _ | assumption | refine Below.drew ?_ | refine below_drewN ?_ _ | refine Below.alloc ?_ (by first | exact Nat.le_refl _ | omega | (simp; done) | (simp; omega)) _)
    ·
      go_enter Try.func129, Try.ntmps129
      go_wp2_with (first
      | (go_at_call_of 145 A; (with_reducible refine (bytesEqual_ok _ A A' x.name y.name a a' ?hx ?hy).mono ?_); (case hx => (refine Ha.out.bbelow ?_; repeat' (first | exact Below.refl _ _ | assumption | refine Below.drew ?_ | refine below_drewN ?_ _ | refine Below.alloc ?_ (by first | exact Nat.le_refl _ | omega | (simp; done) | (simp; omega)) _))); (case hy => (refine Ha'.out.bbelow ?_; repeat' (first | exact Below.refl _ _ | assumption | refine Below.drew ?_ | refine below_drewN ?_ _ | refine Below.alloc ?_ (by first | exact Nat.le_refl _ | omega | (simp; done) | (simp; omega)) _))); rintro e w2 ⟨rfl, rfl⟩)
      | (go_at_call_of 145 B; (with_reducible refine (bytesEqual_ok _ B B' x.key y.key b b' ?hx ?hy).mono ?_); (case hx => (refine Hb.out.bbelow ?_; repeat' (first | exact Below.refl _ _ | assumption | refine Below.drew ?_ | refine below_drewN ?_ _ | refine Below.alloc ?_ (by first | exact Nat.le_refl _ | omega | (simp; done) | (simp; omega)) _))); (case hy => (refine Hb'.out.bbelow ?_; repeat' (first | exact Below.refl _ _ | assumption | refine Below.drew ?_ | refine below_drewN ?_ _ | refine Below.alloc ?_ (by first | exact Nat.le_refl _ | omega | (simp; done) | (simp; omega)) _))); rintro e w2 ⟨rfl, rfl⟩))
      go_ret
      refine ⟨ret_bool (by simp [samePl, d_name, d_key]), ?_⟩
      repeat' (first | exact Below.refl _ _ | assumption | refine Below.drew ?_ | refine below_drewN ?_ _ | refine Below.alloc ?_ (by first | exact Nat.le_refl _ | omega | (simp; done) | (simp; omega)) _)
  ·
    go_enter Try.func129, Try.ntmps129
    go_wp2_with (first
      | (go_at_call_of 145 A; (with_reducible refine (bytesEqual_ok _ A A' x.name y.name a a' ?hx ?hy).mono ?_); (case hx => (refine Ha.out.bbelow ?_; repeat' (first | exact Below.refl _ _ | assumption | refine Below.drew ?_ | refine below_drewN ?_ _ | refine Below.alloc ?_ (by first | exact Nat.le_refl _ | omega | (simp; done) | (simp; omega)) _))); (case hy => (refine Ha'.out.bbelow ?_; repeat' (first | exact Below.refl _ _ | assumption | refine Below.drew ?_ | refine below_drewN ?_ _ | refine Below.alloc ?_ (by first | exact Nat.le_refl _ | omega | (simp; done) | (simp; omega)) _))); rintro e w2 ⟨rfl, rfl⟩)
      | (go_at_call_of 145 B; (with_reducible refine (bytesEqual_ok _ B B' x.key y.key b b' ?hx ?hy).mono ?_); (case hx => (refine Hb.out.bbelow ?_; repeat' (first | exact Below.refl _ _ | assumption | refine Below.drew ?_ | refine below_drewN ?_ _ | refine Below.alloc ?_ (by first | exact Nat.le_refl _ | omega | (simp; done) | (simp; omega)) _))); (case hy => (refine Hb'.out.bbelow ?_; repeat' (first | exact Below.refl _ _ | assumption | refine Below.drew ?_ | refine below_drewN ?_ _ | refine Below.alloc ?_ (by first | exact Nat.le_refl _ | omega | (simp; done) | (simp; omega)) _))); rintro e w2 ⟨rfl, rfl⟩))
    go_ret
    refine ⟨ret_bool (by simp [samePl, d_name]), ?_⟩
    repeat' (first | exact Below.refl _ _ | assumption | refine Below.drew ?_ | refine below_drewN ?_ _ | refine Below.alloc ?_ (by first | exact Nat.le_refl _ | omega | (simp; done) | (simp; omega)) _)
end Go.Proofs.Ythhcdibimnifaaa
