/- Txn: Reads: words for memory; what is refused of one; sameness; copies. Transactions: words for memory; what is refused of one, by the references. Reads and writes copied: ReadCopy, and the program's read. Walk: TxnCopy. Walks: sameRead and sameTxn of the laws' package. The conditions of each are in its words. -/
import Derived.Test.YtjgdeeabejoegaaDoorKForestW
import Derived.Test.YtjgdeeabejoegaaDoorKBase
import Derived.Test.YtjgdeeabejoegaaDoorKForest
namespace Go.Proofs.YtjgdeeabejoegaaDoor
open Go.RowKit
set_option linter.unusedVariables false
set_option linter.unusedSimpArgs false

/-- A read is held in the same words as a write: flag is Wide, value is Last. -/
def readFaultS (x : Wr) : Int :=
  if nameFault x.name ≠ 0 then nameFault x.name else if keyFault x.key ≠ 0 then keyFault x.key else if x.flag = true then keyFault x.value else if 0 < x.value.length then 4 else 0
theorem info_rd : (Tryd.prog.info? 26).map (fun i => (i.zero, i.size, i.bytes)) = some (some (.agg #[.slice none 0 0, .slice none 0 0, .bool false, .slice none 0 0]), 4, 80) := by kernel_rfl
/-- Are two reads the same? -/
def sameRd (x y : Wr) : Bool := x.flag == y.flag && (x.name == y.name && (x.key == y.key && x.value == y.value))
/-- Do two writes go to one place? -/
def samePl (x y : Wr) : Bool := x.name == y.name && x.key == y.key
theorem sameRd_eq (x y : Wr) : sameRd x y = true ↔ x = y := by
  obtain ⟨a, b, c, d⟩ := x
  obtain ⟨a', b', c', d'⟩ := y
  simp only [sameRd, Bool.and_eq_true, beq_iff_eq, Wr.mk.injEq]
  constructor
  · rintro ⟨h1, h2, h3, h4⟩; exact ⟨h2, h3, h1, h4⟩
  · rintro ⟨h2, h3, h1, h4⟩; exact ⟨h1, h2, h3, h4⟩

set_option maxRecDepth 100000 in
set_option maxHeartbeats 1000000 in
theorem shape_ok (w : World) (A B C : Option Addr) (x : Wr) (a b c : Nat) :
    Calls Tryd.prog 77 #[.agg #[.slice A x.name.length a, .slice B x.key.length b, .bool x.flag, .slice C x.value.length c]] w (RetV w (.int .i64 (readFaultS x))) := by
  obtain ⟨xn, xk, xf, xv⟩ := x
  obtain ⟨x, hx⟩ : ∃ x : Wr, x = ⟨xn, xk, xf, xv⟩ := ⟨_, rfl⟩
  by_cases h1 : nameFault xn = 0
  · have b_n : (nameFault xn != 0) = false := by simp [h1]
    by_cases h2 : keyFault xk = 0
    · have b_k : (keyFault xk != 0) = false := by simp [h2]
      cases xf with
      | true =>
        have Hv := Lib.hid (show readFaultS ⟨xn, xk, true, xv⟩ = keyFault xv by unfold readFaultS; dsimp only; rw [if_neg (by simpa using h1), if_neg (by simpa using h2), if_pos rfl])
        clear hx x
        clear h1 h2
        go_enter Tryd.func77, Tryd.ntmps77
        go_wp2_with (first
    | (go_at_call_of 75 C; refine (pathCheck_ok _ C xv c).mono ?_; rintro e w1 ⟨rfl, rfl⟩)
    | (go_at_call 74; refine (forestName_ok _ A xn a).mono ?_; rintro e w1 ⟨rfl, rfl⟩)
    | (go_at_call 75; refine (pathCheck_ok _ B xk b).mono ?_; rintro e w1 ⟨rfl, rfl⟩))
        go_ret
        exact ⟨ret_int (by first | (rw [Hv.out]; done) | (rw [Hv.out]; exact Hk.out)), by repeat' (first | exact Below.refl _ _ | assumption | refine Below.drew ?_ | refine below_drewN ?_ _ | refine Below.setCell ?_ (by first | (simp; done) | omega | (simp; omega)) _ | refine Below.alloc ?_ (by first | exact Nat.le_refl _ | omega | (simp; done) | (simp; omega)) _)⟩
      | false =>
        by_cases h3 : 0 < xv.length
        · have b_l : decide ((0 : Int) < (xv.length : Int)) = true := by rw [decide_eq_true_eq]; omega
          have Hv := Lib.hid (show readFaultS ⟨xn, xk, false, xv⟩ = 4 by unfold readFaultS; dsimp only; rw [if_neg (by simpa using h1), if_neg (by simpa using h2), if_neg (by decide), if_pos h3])
          clear hx x
          clear h1 h2
          go_enter Tryd.func77, Tryd.ntmps77
          go_wp2_with (first
    | (go_at_call_of 75 C; refine (pathCheck_ok _ C xv c).mono ?_; rintro e w1 ⟨rfl, rfl⟩)
    | (go_at_call 74; refine (forestName_ok _ A xn a).mono ?_; rintro e w1 ⟨rfl, rfl⟩)
    | (go_at_call 75; refine (pathCheck_ok _ B xk b).mono ?_; rintro e w1 ⟨rfl, rfl⟩))
          go_ret
          exact ⟨ret_int (by first | (rw [Hv.out]; done) | (rw [Hv.out]; exact Hk.out)), by repeat' (first | exact Below.refl _ _ | assumption | refine Below.drew ?_ | refine below_drewN ?_ _ | refine Below.setCell ?_ (by first | (simp; done) | omega | (simp; omega)) _ | refine Below.alloc ?_ (by first | exact Nat.le_refl _ | omega | (simp; done) | (simp; omega)) _)⟩
        · have b_l : decide ((0 : Int) < (xv.length : Int)) = false := by rw [decide_eq_false_iff_not]; omega
          have Hv := Lib.hid (show readFaultS ⟨xn, xk, false, xv⟩ = 0 by unfold readFaultS; dsimp only; rw [if_neg (by simpa using h1), if_neg (by simpa using h2), if_neg (by decide), if_neg h3])
          clear hx x
          have Hk := Lib.hid h2; clear h1 h2
          go_enter Tryd.func77, Tryd.ntmps77
          go_wp2_with (first
    | (go_at_call_of 75 C; refine (pathCheck_ok _ C xv c).mono ?_; rintro e w1 ⟨rfl, rfl⟩)
    | (go_at_call 74; refine (forestName_ok _ A xn a).mono ?_; rintro e w1 ⟨rfl, rfl⟩)
    | (go_at_call 75; refine (pathCheck_ok _ B xk b).mono ?_; rintro e w1 ⟨rfl, rfl⟩))
          go_ret
          exact ⟨ret_int (by first | (rw [Hv.out]; done) | (rw [Hv.out]; exact Hk.out)), by repeat' (first | exact Below.refl _ _ | assumption | refine Below.drew ?_ | refine below_drewN ?_ _ | refine Below.setCell ?_ (by first | (simp; done) | omega | (simp; omega)) _ | refine Below.alloc ?_ (by first | exact Nat.le_refl _ | omega | (simp; done) | (simp; omega)) _)⟩
    · have b_k : (keyFault xk != 0) = true := by simpa using h2
      have Hv := Lib.hid (show readFaultS ⟨xn, xk, xf, xv⟩ = keyFault xk by unfold readFaultS; dsimp only; rw [if_neg (by simpa using h1), if_pos h2])
      clear hx x
      clear h1 h2
      go_enter Tryd.func77, Tryd.ntmps77
      go_wp2_with (first
    | (go_at_call_of 75 C; refine (pathCheck_ok _ C xv c).mono ?_; rintro e w1 ⟨rfl, rfl⟩)
    | (go_at_call 74; refine (forestName_ok _ A xn a).mono ?_; rintro e w1 ⟨rfl, rfl⟩)
    | (go_at_call 75; refine (pathCheck_ok _ B xk b).mono ?_; rintro e w1 ⟨rfl, rfl⟩))
      go_ret
      exact ⟨ret_int (by first | (rw [Hv.out]; done) | (rw [Hv.out]; exact Hk.out)), by repeat' (first | exact Below.refl _ _ | assumption | refine Below.drew ?_ | refine below_drewN ?_ _ | refine Below.setCell ?_ (by first | (simp; done) | omega | (simp; omega)) _ | refine Below.alloc ?_ (by first | exact Nat.le_refl _ | omega | (simp; done) | (simp; omega)) _)⟩
  · have b_n : (nameFault xn != 0) = true := by simpa using h1
    have Hv := Lib.hid (show readFaultS ⟨xn, xk, xf, xv⟩ = nameFault xn by unfold readFaultS; dsimp only; rw [if_pos h1])
    clear hx x
    clear h1
    go_enter Tryd.func77, Tryd.ntmps77
    go_wp2_with (first
    | (go_at_call_of 75 C; refine (pathCheck_ok _ C xv c).mono ?_; rintro e w1 ⟨rfl, rfl⟩)
    | (go_at_call 74; refine (forestName_ok _ A xn a).mono ?_; rintro e w1 ⟨rfl, rfl⟩)
    | (go_at_call 75; refine (pathCheck_ok _ B xk b).mono ?_; rintro e w1 ⟨rfl, rfl⟩))
    go_ret
    exact ⟨ret_int (by first | (rw [Hv.out]; done) | (rw [Hv.out]; exact Hk.out)), by repeat' (first | exact Below.refl _ _ | assumption | refine Below.drew ?_ | refine below_drewN ?_ _ | refine Below.setCell ?_ (by first | (simp; done) | omega | (simp; omega)) _ | refine Below.alloc ?_ (by first | exact Nat.le_refl _ | omega | (simp; done) | (simp; omega)) _)⟩
theorem bytesEqual_ok (w : World) (A B : Option Addr) (a b : List UInt8) (c d : Nat) (ha : Bs All w A a) (hb : Bs All w B b) :
    Calls Tryd.prog 59 #[.slice A a.length c, .slice B b.length d] w fun e w' => e = .returned (.bool (a == b)) ∧ w = w' := by
  have h1 := conv_str ha 22 9 5 c Tryd.underlying22 Tryd.underlying5 Tryd.underlying9
  have h2 := conv_str hb 22 9 5 d Tryd.underlying22 Tryd.underlying5 Tryd.underlying9
  clear ha hb
  go_enter Tryd.func59, Tryd.ntmps59
  go_wp2
  go_ret
  exact ⟨rfl, rfl⟩

set_option maxRecDepth 100000 in
set_option maxHeartbeats 1000000 in
theorem progSameRead_ok (w : World) (A B C A' B' C' : Option Addr) (x y : Wr) (a b c a' b' c' : Nat) (ha : Bs All w A x.name) (hb : Bs All w B x.key) (hc : Bs All w C x.value) (ha' : Bs All w A' y.name) (hb' : Bs All w B' y.key) (hc' : Bs All w C' y.value) :
    Calls Tryd.prog 81 #[.agg #[.slice A x.name.length a, .slice B x.key.length b, .bool x.flag, .slice C x.value.length c], .agg #[.slice A' y.name.length a', .slice B' y.key.length b', .bool y.flag, .slice C' y.value.length c']] w (RetV w (.bool (sameRd x y))) := by
  have Ha := Lib.hid ha
  have Hb := Lib.hid hb
  have Hc := Lib.hid hc
  have Ha' := Lib.hid ha'
  have Hb' := Lib.hid hb'
  have Hc' := Lib.hid hc'
  clear ha hb hc ha' hb' hc'
  rcases Bool.eq_false_or_eq_true (x.flag == y.flag) with d_flag | d_flag
  ·
    rcases Bool.eq_false_or_eq_true (x.name == y.name) with d_name | d_name
    ·
      rcases Bool.eq_false_or_eq_true (x.key == y.key) with d_key | d_key
      ·
        rcases Bool.eq_false_or_eq_true (x.value == y.value) with d_value | d_value
        ·
          go_enter Tryd.func81, Tryd.ntmps81
          go_wp2_with (first
      | (go_at_call_of 59 A; (with_reducible refine (bytesEqual_ok _ A A' x.name y.name a a' ?hx ?hy).mono ?_); (case hx => (refine Ha.out.bbelow ?_; repeat' (first | exact Below.refl _ _ | assumption | refine Below.drew ?_ | refine below_drewN ?_ _ | refine Below.alloc ?_ (by first | exact Nat.le_refl _ | omega | (simp; done) | (simp; omega)) _))); (case hy => (refine Ha'.out.bbelow ?_; repeat' (first | exact Below.refl _ _ | assumption | refine Below.drew ?_ | refine below_drewN ?_ _ | refine Below.alloc ?_ (by first | exact Nat.le_refl _ | omega | (simp; done) | (simp; omega)) _))); rintro e w2 ⟨rfl, rfl⟩)
      | (go_at_call_of 59 B; (with_reducible refine (bytesEqual_ok _ B B' x.key y.key b b' ?hx ?hy).mono ?_); (case hx => (refine Hb.out.bbelow ?_; repeat' (first | exact Below.refl _ _ | assumption | refine Below.drew ?_ | refine below_drewN ?_ _ | refine Below.alloc ?_ (by first | exact Nat.le_refl _ | omega | (simp; done) | (simp; omega)) _))); (case hy => (refine Hb'.out.bbelow ?_; repeat' (first | exact Below.refl _ _ | assumption | refine Below.drew ?_ | refine below_drewN ?_ _ | refine Below.alloc ?_ (by first | exact Nat.le_refl _ | omega | (simp; done) | (simp; omega)) _))); rintro e w2 ⟨rfl, rfl⟩)
      | (go_at_call_of 59 C; (with_reducible refine (bytesEqual_ok _ C C' x.value y.value c c' ?hx ?hy).mono ?_); (case hx => (refine Hc.out.bbelow ?_; repeat' (first | exact Below.refl _ _ | assumption | refine Below.drew ?_ | refine below_drewN ?_ _ | refine Below.alloc ?_ (by first | exact Nat.le_refl _ | omega | (simp; done) | (simp; omega)) _))); (case hy => (refine Hc'.out.bbelow ?_; repeat' (first | exact Below.refl _ _ | assumption | refine Below.drew ?_ | refine below_drewN ?_ _ | refine Below.alloc ?_ (by first | exact Nat.le_refl _ | omega | (simp; done) | (simp; omega)) _))); rintro e w2 ⟨rfl, rfl⟩))
          go_ret
          refine ⟨ret_bool (by simp [sameRd, d_flag, d_name, d_key, d_value]), ?_⟩
          repeat' (first | exact Below.refl _ _ | assumption | refine Below.drew ?_ | refine below_drewN ?_ _ | refine Below.alloc ?_ (by first | exact Nat.le_refl _ | omega | (simp; done) | (simp; omega)) _)
        ·
          go_enter Tryd.func81, Tryd.ntmps81
          go_wp2_with (first
      | (go_at_call_of 59 A; (with_reducible refine (bytesEqual_ok _ A A' x.name y.name a a' ?hx ?hy).mono ?_); (case hx => (refine Ha.out.bbelow ?_; repeat' (first | exact Below.refl _ _ | assumption | refine Below.drew ?_ | refine below_drewN ?_ _ | refine Below.alloc ?_ (by first | exact Nat.le_refl _ | omega | (simp; done) | (simp; omega)) _))); (case hy => (refine Ha'.out.bbelow ?_; repeat' (first | exact Below.refl _ _ | assumption | refine Below.drew ?_ | refine below_drewN ?_ _ | refine Below.alloc ?_ (by first | exact Nat.le_refl _ | omega | (simp; done) | (simp; omega)) _))); rintro e w2 ⟨rfl, rfl⟩)
      | (go_at_call_of 59 B; (with_reducible refine (bytesEqual_ok _ B B' x.key y.key b b' ?hx ?hy).mono ?_); (case hx => (refine Hb.out.bbelow ?_; repeat' (first | exact Below.refl _ _ | assumption | refine Below.drew ?_ | refine below_drewN ?_ _ | refine Below.alloc ?_ (by first | exact Nat.le_refl _ | omega | (simp; done) | (simp; omega)) _))); (case hy => (refine Hb'.out.bbelow ?_; repeat' (first | exact Below.refl _ _ | assumption | refine Below.drew ?_ | refine below_drewN ?_ _ | refine Below.alloc ?_ (by first | exact Nat.le_refl _ | omega | (simp; done) | (simp; omega)) _))); rintro e w2 ⟨rfl, rfl⟩)
      | (go_at_call_of 59 C; (with_reducible refine (bytesEqual_ok _ C C' x.value y.value c c' ?hx ?hy).mono ?_); (case hx => (refine Hc.out.bbelow ?_; repeat' (first | exact Below.refl _ _ | assumption | refine Below.drew ?_ | refine below_drewN ?_ _ | refine Below.alloc ?_ (by first | exact Nat.le_refl _ | omega | (simp; done) | (simp; omega)) _))); (case hy => (refine Hc'.out.bbelow ?_; repeat' (first | exact Below.refl _ _ | assumption | refine Below.drew ?_ | refine below_drewN ?_ _ | refine Below.alloc ?_ (by first | exact Nat.le_refl _ | omega | (simp; done) | (simp; omega)) _))); rintro e w2 ⟨rfl, rfl⟩))
          go_ret
          refine ⟨ret_bool (by simp [sameRd, d_flag, d_name, d_key, d_value]), ?_⟩
          repeat' (first | exact Below.refl _ _ | assumption | refine Below.drew ?_ | refine below_drewN ?_ _ | refine Below.alloc ?_ (by first | exact Nat.le_refl _ | omega | (simp; done) | (simp; omega)) _)
      ·
        go_enter Tryd.func81, Tryd.ntmps81
        go_wp2_with (first
      | (go_at_call_of 59 A; (with_reducible refine (bytesEqual_ok _ A A' x.name y.name a a' ?hx ?hy).mono ?_); (case hx => (refine Ha.out.bbelow ?_; repeat' (first | exact Below.refl _ _ | assumption | refine Below.drew ?_ | refine below_drewN ?_ _ | refine Below.alloc ?_ (by first | exact Nat.le_refl _ | omega | (simp; done) | (simp; omega)) _))); (case hy => (refine Ha'.out.bbelow ?_; repeat' (first | exact Below.refl _ _ | assumption | refine Below.drew ?_ | refine below_drewN ?_ _ | refine Below.alloc ?_ (by first | exact Nat.le_refl _ | omega | (simp; done) | (simp; omega)) _))); rintro e w2 ⟨rfl, rfl⟩)
      | (go_at_call_of 59 B; (with_reducible refine (bytesEqual_ok _ B B' x.key y.key b b' ?hx ?hy).mono ?_); (case hx => (refine Hb.out.bbelow ?_; repeat' (first | exact Below.refl _ _ | assumption | refine Below.drew ?_ | refine below_drewN ?_ _ | refine Below.alloc ?_ (by first | exact Nat.le_refl _ | omega | (simp; done) | (simp; omega)) _))); (case hy => (refine Hb'.out.bbelow ?_; repeat' (first | exact Below.refl _ _ | assumption | refine Below.drew ?_ | refine below_drewN ?_ _ | refine Below.alloc ?_ (by first | exact Nat.le_refl _ | omega | (simp; done) | (simp; omega)) _))); rintro e w2 ⟨rfl, rfl⟩)
      | (go_at_call_of 59 C; (with_reducible refine (bytesEqual_ok _ C C' x.value y.value c c' ?hx ?hy).mono ?_); (case hx => (refine Hc.out.bbelow ?_; repeat' (first | exact Below.refl _ _ | assumption | refine Below.drew ?_ | refine below_drewN ?_ _ | refine Below.alloc ?_ (by first | exact Nat.le_refl _ | omega | (simp; done) | (simp; omega)) _))); (case hy => (refine Hc'.out.bbelow ?_; repeat' (first | exact Below.refl _ _ | assumption | refine Below.drew ?_ | refine below_drewN ?_ _ | refine Below.alloc ?_ (by first | exact Nat.le_refl _ | omega | (simp; done) | (simp; omega)) _))); rintro e w2 ⟨rfl, rfl⟩))
        go_ret
        refine ⟨ret_bool (by simp [sameRd, d_flag, d_name, d_key]), ?_⟩
        repeat' (first | exact Below.refl _ _ | assumption | refine Below.drew ?_ | refine below_drewN ?_ _ | refine Below.alloc ?_ (by first | exact Nat.le_refl _ | omega | (simp; done) | (simp; omega)) _)
    ·
      go_enter Tryd.func81, Tryd.ntmps81
      go_wp2_with (first
      | (go_at_call_of 59 A; (with_reducible refine (bytesEqual_ok _ A A' x.name y.name a a' ?hx ?hy).mono ?_); (case hx => (refine Ha.out.bbelow ?_; repeat' (first | exact Below.refl _ _ | assumption | refine Below.drew ?_ | refine below_drewN ?_ _ | refine Below.alloc ?_ (by first | exact Nat.le_refl _ | omega | (simp; done) | (simp; omega)) _))); (case hy => (refine Ha'.out.bbelow ?_; repeat' (first | exact Below.refl _ _ | assumption | refine Below.drew ?_ | refine below_drewN ?_ _ | refine Below.alloc ?_ (by first | exact Nat.le_refl _ | omega | (simp; done) | (simp; omega)) _))); rintro e w2 ⟨rfl, rfl⟩)
      | (go_at_call_of 59 B; (with_reducible refine (bytesEqual_ok _ B B' x.key y.key b b' ?hx ?hy).mono ?_); (case hx => (refine Hb.out.bbelow ?_; repeat' (first | exact Below.refl _ _ | assumption | refine Below.drew ?_ | refine below_drewN ?_ _ | refine Below.alloc ?_ (by first | exact Nat.le_refl _ | omega | (simp; done) | (simp; omega)) _))); (case hy => (refine Hb'.out.bbelow ?_; repeat' (first | exact Below.refl _ _ | assumption | refine Below.drew ?_ | refine below_drewN ?_ _ | refine Below.alloc ?_ (by first | exact Nat.le_refl _ | omega | (simp; done) | (simp; omega)) _))); rintro e w2 ⟨rfl, rfl⟩)
      | (go_at_call_of 59 C; (with_reducible refine (bytesEqual_ok _ C C' x.value y.value c c' ?hx ?hy).mono ?_); (case hx => (refine Hc.out.bbelow ?_; repeat' (first | exact Below.refl _ _ | assumption | refine Below.drew ?_ | refine below_drewN ?_ _ | refine Below.alloc ?_ (by first | exact Nat.le_refl _ | omega | (simp; done) | (simp; omega)) _))); (case hy => (refine Hc'.out.bbelow ?_; repeat' (first | exact Below.refl _ _ | assumption | refine Below.drew ?_ | refine below_drewN ?_ _ | refine Below.alloc ?_ (by first | exact Nat.le_refl _ | omega | (simp; done) | (simp; omega)) _))); rintro e w2 ⟨rfl, rfl⟩))
      go_ret
      refine ⟨ret_bool (by simp [sameRd, d_flag, d_name]), ?_⟩
      repeat' (first | exact Below.refl _ _ | assumption | refine Below.drew ?_ | refine below_drewN ?_ _ | refine Below.alloc ?_ (by first | exact Nat.le_refl _ | omega | (simp; done) | (simp; omega)) _)
  ·
    go_enter Tryd.func81, Tryd.ntmps81
    go_wp2_with (first
      | (go_at_call_of 59 A; (with_reducible refine (bytesEqual_ok _ A A' x.name y.name a a' ?hx ?hy).mono ?_); (case hx => (refine Ha.out.bbelow ?_; repeat' (first | exact Below.refl _ _ | assumption | refine Below.drew ?_ | refine below_drewN ?_ _ | refine Below.alloc ?_ (by first | exact Nat.le_refl _ | omega | (simp; done) | (simp; omega)) _))); (case hy => (refine Ha'.out.bbelow ?_; repeat' (first | exact Below.refl _ _ | assumption | refine Below.drew ?_ | refine below_drewN ?_ _ | refine Below.alloc ?_ (by first | exact Nat.le_refl _ | omega | (simp; done) | (simp; omega)) _))); rintro e w2 ⟨rfl, rfl⟩)
      | (go_at_call_of 59 B; (with_reducible refine (bytesEqual_ok _ B B' x.key y.key b b' ?hx ?hy).mono ?_); (case hx => (refine Hb.out.bbelow ?_; repeat' (first | exact Below.refl _ _ | assumption | refine Below.drew ?_ | refine below_drewN ?_ _ | refine Below.alloc ?_ (by first | exact Nat.le_refl _ | omega | (simp; done) | (simp; omega)) _))); (case hy => (refine Hb'.out.bbelow ?_; repeat' (first | exact Below.refl _ _ | assumption | refine Below.drew ?_ | refine below_drewN ?_ _ | refine Below.alloc ?_ (by first | exact Nat.le_refl _ | omega | (simp; done) | (simp; omega)) _))); rintro e w2 ⟨rfl, rfl⟩)
      | (go_at_call_of 59 C; (with_reducible refine (bytesEqual_ok _ C C' x.value y.value c c' ?hx ?hy).mono ?_); (case hx => (refine Hc.out.bbelow ?_; repeat' (first | exact Below.refl _ _ | assumption | refine Below.drew ?_ | refine below_drewN ?_ _ | refine Below.alloc ?_ (by first | exact Nat.le_refl _ | omega | (simp; done) | (simp; omega)) _))); (case hy => (refine Hc'.out.bbelow ?_; repeat' (first | exact Below.refl _ _ | assumption | refine Below.drew ?_ | refine below_drewN ?_ _ | refine Below.alloc ?_ (by first | exact Nat.le_refl _ | omega | (simp; done) | (simp; omega)) _))); rintro e w2 ⟨rfl, rfl⟩))
    go_ret
    refine ⟨ret_bool (by simp [sameRd, d_flag]), ?_⟩
    repeat' (first | exact Below.refl _ _ | assumption | refine Below.drew ?_ | refine below_drewN ?_ _ | refine Below.alloc ?_ (by first | exact Nat.le_refl _ | omega | (simp; done) | (simp; omega)) _)
set_option maxRecDepth 100000 in
set_option maxHeartbeats 1000000 in
theorem progSamePlace_ok (w : World) (A B C A' B' C' : Option Addr) (x y : Wr) (a b c a' b' c' : Nat) (ha : Bs All w A x.name) (hb : Bs All w B x.key) (hc : Bs All w C x.value) (ha' : Bs All w A' y.name) (hb' : Bs All w B' y.key) (hc' : Bs All w C' y.value) :
    Calls Tryd.prog 91 #[.agg #[.slice A x.name.length a, .slice B x.key.length b, .bool x.flag, .slice C x.value.length c], .agg #[.slice A' y.name.length a', .slice B' y.key.length b', .bool y.flag, .slice C' y.value.length c']] w (RetV w (.bool (samePl x y))) := by
  have Ha := Lib.hid ha
  have Hb := Lib.hid hb
  have Hc := Lib.hid hc
  have Ha' := Lib.hid ha'
  have Hb' := Lib.hid hb'
  have Hc' := Lib.hid hc'
  clear ha hb hc ha' hb' hc'
  rcases Bool.eq_false_or_eq_true (x.name == y.name) with d_name | d_name
  ·
    rcases Bool.eq_false_or_eq_true (x.key == y.key) with d_key | d_key
    ·
      go_enter Tryd.func91, Tryd.ntmps91
      go_wp2_with (first
      | (go_at_call_of 59 A; (with_reducible refine (bytesEqual_ok _ A A' x.name y.name a a' ?hx ?hy).mono ?_); (case hx => (refine Ha.out.bbelow ?_; repeat' (first | exact Below.refl _ _ | assumption | refine Below.drew ?_ | refine below_drewN ?_ _ | refine Below.alloc ?_ (by first | exact Nat.le_refl _ | omega | (simp; done) | (simp; omega)) _))); (case hy => (refine Ha'.out.bbelow ?_; repeat' (first | exact Below.refl _ _ | assumption | refine Below.drew ?_ | refine below_drewN ?_ _ | refine Below.alloc ?_ (by first | exact Nat.le_refl _ | omega | (simp; done) | (simp; omega)) _))); rintro e w2 ⟨rfl, rfl⟩)
      | (go_at_call_of 59 B; (with_reducible refine (bytesEqual_ok _ B B' x.key y.key b b' ?hx ?hy).mono ?_); (case hx => (refine Hb.out.bbelow ?_; repeat' (first | exact Below.refl _ _ | assumption | refine Below.drew ?_ | refine below_drewN ?_ _ | refine Below.alloc ?_ (by first | exact Nat.le_refl _ | omega | (simp; done) | (simp; omega)) _))); (case hy => (refine Hb'.out.bbelow ?_; repeat' (first | exact Below.refl _ _ | assumption | refine Below.drew ?_ | refine below_drewN ?_ _ | refine Below.alloc ?_ (by first | exact Nat.le_refl _ | omega | (simp; done) | (simp; omega)) _))); rintro e w2 ⟨rfl, rfl⟩))
      go_ret
      refine ⟨ret_bool (by simp [samePl, d_name, d_key]), ?_⟩
      repeat' (first | exact Below.refl _ _ | assumption | refine Below.drew ?_ | refine below_drewN ?_ _ | refine Below.alloc ?_ (by first | exact Nat.le_refl _ | omega | (simp; done) | (simp; omega)) _)
    ·
      go_enter Tryd.func91, Tryd.ntmps91
      go_wp2_with (first
      | (go_at_call_of 59 A; (with_reducible refine (bytesEqual_ok _ A A' x.name y.name a a' ?hx ?hy).mono ?_); (case hx => (refine Ha.out.bbelow ?_; repeat' (first | exact Below.refl _ _ | assumption | refine Below.drew ?_ | refine below_drewN ?_ _ | refine Below.alloc ?_ (by first | exact Nat.le_refl _ | omega | (simp; done) | (simp; omega)) _))); (case hy => (refine Ha'.out.bbelow ?_; repeat' (first | exact Below.refl _ _ | assumption | refine Below.drew ?_ | refine below_drewN ?_ _ | refine Below.alloc ?_ (by first | exact Nat.le_refl _ | omega | (simp; done) | (simp; omega)) _))); rintro e w2 ⟨rfl, rfl⟩)
      | (go_at_call_of 59 B; (with_reducible refine (bytesEqual_ok _ B B' x.key y.key b b' ?hx ?hy).mono ?_); (case hx => (refine Hb.out.bbelow ?_; repeat' (first | exact Below.refl _ _ | assumption | refine Below.drew ?_ | refine below_drewN ?_ _ | refine Below.alloc ?_ (by first | exact Nat.le_refl _ | omega | (simp; done) | (simp; omega)) _))); (case hy => (refine Hb'.out.bbelow ?_; repeat' (first | exact Below.refl _ _ | assumption | refine Below.drew ?_ | refine below_drewN ?_ _ | refine Below.alloc ?_ (by first | exact Nat.le_refl _ | omega | (simp; done) | (simp; omega)) _))); rintro e w2 ⟨rfl, rfl⟩))
      go_ret
      refine ⟨ret_bool (by simp [samePl, d_name, d_key]), ?_⟩
      repeat' (first | exact Below.refl _ _ | assumption | refine Below.drew ?_ | refine below_drewN ?_ _ | refine Below.alloc ?_ (by first | exact Nat.le_refl _ | omega | (simp; done) | (simp; omega)) _)
  ·
    go_enter Tryd.func91, Tryd.ntmps91
    go_wp2_with (first
      | (go_at_call_of 59 A; (with_reducible refine (bytesEqual_ok _ A A' x.name y.name a a' ?hx ?hy).mono ?_); (case hx => (refine Ha.out.bbelow ?_; repeat' (first | exact Below.refl _ _ | assumption | refine Below.drew ?_ | refine below_drewN ?_ _ | refine Below.alloc ?_ (by first | exact Nat.le_refl _ | omega | (simp; done) | (simp; omega)) _))); (case hy => (refine Ha'.out.bbelow ?_; repeat' (first | exact Below.refl _ _ | assumption | refine Below.drew ?_ | refine below_drewN ?_ _ | refine Below.alloc ?_ (by first | exact Nat.le_refl _ | omega | (simp; done) | (simp; omega)) _))); rintro e w2 ⟨rfl, rfl⟩)
      | (go_at_call_of 59 B; (with_reducible refine (bytesEqual_ok _ B B' x.key y.key b b' ?hx ?hy).mono ?_); (case hx => (refine Hb.out.bbelow ?_; repeat' (first | exact Below.refl _ _ | assumption | refine Below.drew ?_ | refine below_drewN ?_ _ | refine Below.alloc ?_ (by first | exact Nat.le_refl _ | omega | (simp; done) | (simp; omega)) _))); (case hy => (refine Hb'.out.bbelow ?_; repeat' (first | exact Below.refl _ _ | assumption | refine Below.drew ?_ | refine below_drewN ?_ _ | refine Below.alloc ?_ (by first | exact Nat.le_refl _ | omega | (simp; done) | (simp; omega)) _))); rintro e w2 ⟨rfl, rfl⟩))
    go_ret
    refine ⟨ret_bool (by simp [samePl, d_name]), ?_⟩
    repeat' (first | exact Below.refl _ _ | assumption | refine Below.drew ?_ | refine below_drewN ?_ _ | refine Below.alloc ?_ (by first | exact Nat.le_refl _ | omega | (simp; done) | (simp; omega)) _)
end Go.Proofs.YtjgdeeabejoegaaDoor
namespace Go.Proofs.YtjgdeeabejoegaaDoor
open Go.RowKit
set_option linter.unusedVariables false
set_option linter.unusedSimpArgs false

structure Tx where
  start : Int
  reads : List Wr
  writes : List Wr
/-- The three cells of a transaction. -/
def TxR (S : Nat → Prop) (w : World) (cs : List Value) (t : Tx) : Prop :=
  ∃ A n B m, cs = [.int .i64 t.start, .slice A t.reads.length n, .slice B t.writes.length m] ∧ Ws S w A t.reads ∧ Ws S w B t.writes ∧ t.reads.length * 80 ≤ 140737488355328 ∧ t.writes.length * 80 ≤ 140737488355328 ∧ t.reads.length ≤ n ∧ t.writes.length ≤ m
theorem box3 {w : World} {g : Nat} {t : TypeId} {a b c : Value} (h : w.heap[g]? = some (.cells #[a, b, c] t (0, 0))) :
    w.cell? ⟨g, 0, none⟩ = some a ∧ w.cell? ⟨g, 1, none⟩ = some b ∧ w.cell? ⟨g, 2, none⟩ = some c ∧ w.frozen? ⟨g, 0, none⟩ = false ∧ w.frozen? ⟨g, 1, none⟩ = false ∧ w.frozen? ⟨g, 2, none⟩ = false :=
  ⟨box_cell (cs := [a, b, c]) h 0, box_cell (cs := [a, b, c]) h 1, box_cell (cs := [a, b, c]) h 2, box_frozen (cs := [a, b, c]) h 0, box_frozen (cs := [a, b, c]) h 1, box_frozen (cs := [a, b, c]) h 2⟩
/-- A fault, or that one of the first j is the same. -/
def stepE (q : Wr → Bool) (f : Int) (l : List Wr) (j : Nat) : Int := if f ≠ 0 then f else if (l.take j).any q then 3 else 0
theorem stepE_zero (q : Wr → Bool) (f : Int) (l : List Wr) : stepE q f l 0 = f := by
  unfold stepE
  by_cases h : f = 0 <;> simp [h]
theorem stepE_hit {q : Wr → Bool} {f : Int} {l : List Wr} {j : Nat} (h : stepE q f l j = 0) (hj : j < l.length) (hq : q l[j] = true) : stepE q f l (j + 1) = 3 := by
  unfold stepE at h ⊢
  by_cases hf : f = 0
  · simp only [hf, ne_eq, not_true_eq_false, if_false] at h ⊢
    rw [take_snoc l j hj, List.any_append]
    simp [hq]
  · simp [hf] at h
theorem stepE_miss {q : Wr → Bool} {f : Int} {l : List Wr} {j : Nat} (h : stepE q f l j = 0) (hj : j < l.length) (hq : q l[j] = false) : stepE q f l (j + 1) = 0 := by
  unfold stepE at h ⊢
  by_cases hf : f = 0
  · simp only [hf, ne_eq, not_true_eq_false, if_false] at h ⊢
    rw [take_snoc l j hj, List.any_append]
    by_cases ha : (l.take j).any q = true
    · simp [ha] at h
    · simp [hq, Bool.not_eq_true _ ▸ ha]
  · simp [hf] at h
theorem stepE_end {q : Wr → Bool} {f : Int} {l : List Wr} {j k : Nat} (hj : j ≤ k) (h : stepE q f l j ≠ 0) : stepE q f l k = stepE q f l j := by
  unfold stepE at h ⊢
  by_cases hf : f = 0
  · simp only [hf, ne_eq, not_true_eq_false, if_false] at h ⊢
    by_cases ha : (l.take j).any q = true
    · have hk : (l.take k).any q = true := by
        rw [List.any_eq_true] at ha ⊢
        obtain ⟨x, hx, hq⟩ := ha
        exact ⟨x, (List.take_sublist_take_left hj).subset hx, hq⟩
      rw [if_pos ha, if_pos hk]
    · rw [if_neg ha] at h
      exact absurd rfl h
  · simp [hf]
/-- What is refused at a place of a list in which none may come twice. -/
def placeAt (fault : Wr → Int) (same : Wr → Wr → Bool) (l : List Wr) (i : Nat) : Int := stepE (fun y => same y (l.getD i ⟨[], [], false, []⟩)) (fault (l.getD i ⟨[], [], false, []⟩)) l i
theorem placeAt_eq (fault : Wr → Int) (same : Wr → Wr → Bool) {l : List Wr} {i : Nat} (h : i < l.length) : placeAt fault same l i = stepE (fun y => same y l[i]) (fault l[i]) l i := by
  simp [placeAt, h]
def readsFaultS (l : List Wr) : Int := firstBad (placeAt readFaultS sameRd l) l.length 0
def writesFaultS (l : List Wr) : Int := firstBad (placeAt writeFaultS samePl l) l.length 0
/-- What TxnFault and txn.Check answer. -/
def txnFaultS (t : Tx) : Int := if ¬ (0 ≤ t.start ∧ t.start ≤ 1048576) then 2 else if 20 < t.reads.length ∨ 10 < t.writes.length then 1 else if readsFaultS t.reads ≠ 0 then readsFaultS t.reads else writesFaultS t.writes

end Go.Proofs.YtjgdeeabejoegaaDoor
namespace Go.Proofs.YtjgdeeabejoegaaDoor
open Go.RowKit
set_option linter.unusedVariables false
set_option linter.unusedSimpArgs false

set_option maxRecDepth 100000 in
set_option maxHeartbeats 1000000 in
theorem txnRead_ok (w : World) (A B C : Option Addr) (x : Wr) (a b c : Nat) (ha : Bs All w A x.name) (hb : Bs All w B x.key) (hc : Bs All w C x.value) (h1 : x.name.length ≤ big) (h2 : x.key.length ≤ big) (h3 : x.value.length ≤ big) :
    Calls Tryd.prog 82 #[.agg #[.slice A x.name.length a, .slice B x.key.length b, .bool x.flag, .slice C x.value.length c]] w (RetWr w x) := by
  have Ha := Lib.hid ha
  have Hb := Lib.hid hb
  have Hc := Lib.hid hc
  clear ha hb hc
  have Hbox := Lib.hid (show ∀ W, Below (w.heap.size + 2) ((w.alloc (.cells #[.slice A x.name.length a, .slice B x.key.length b, .bool x.flag, .slice C x.value.length c] 26)).alloc (.cells #[.slice none 0 0, .slice none 0 0, .bool false, .slice none 0 0] 26)) W → W.heap[w.heap.size]? = some (.cells #[.slice A x.name.length a, .slice B x.key.length b, .bool x.flag, .slice C x.value.length c] 26 (0, 0)) ∧ W.heap[w.heap.size + 1]? = some (.cells #[.slice none 0 0, .slice none 0 0, .bool false, .slice none 0 0] 26 (0, 0)) ∧ Below w.heap.size w W ∧ w.heap.size + 2 ≤ W.heap.size from fun W hW =>
    ⟨(hW.block _ (by omega)).trans ((heap_alloc_old _ _ (by simp)).trans (box_new w _ _)), (hW.block _ (by omega)).trans (by have := box_new (w.alloc (.cells #[.slice A x.name.length a, .slice B x.key.length b, .bool x.flag, .slice C x.value.length c] 26)) #[.slice none 0 0, .slice none 0 0, .bool false, .slice none 0 0] 26; simpa using this), (((Below.refl w.heap.size w).alloc (Nat.le_refl _) _).alloc (by simp) _).trans (hW.mono (by omega)), by simpa using hW.size⟩)
  go_enter Tryd.func82, Tryd.ntmps82
  go_wp2_with fail
  go_region_held3 (fun w' => w'.cell? ⟨w.heap.size, 0, none⟩ = some (.slice A x.name.length a) ∧ w'.cell? ⟨w.heap.size, 1, none⟩ = some (.slice B x.key.length b) ∧ w'.cell? ⟨w.heap.size, 2, none⟩ = some (.bool x.flag) ∧ w'.cell? ⟨w.heap.size, 3, none⟩ = some (.slice C x.value.length c))
    (first
      | go_keep
      | exact ⟨q0, q1, q2, q3⟩
      | exact ⟨r0, r1, r2, r3⟩
      | exact ⟨s0, s1, s2, s3⟩)
    (first
      | (go_at_call 61; (with_reducible refine (clone_ok _ A x.name a ?ha h1).mono ?_); (case ha => (refine Ha.out.bbelow ?_; repeat' (first | exact Below.refl _ _ | assumption | refine Below.drew ?_ | refine below_drewN ?_ _ | refine Below.alloc ?_ (by first | exact Nat.le_refl _ | omega | (simp; done) | (simp; omega)) _))); rintro e w1 ⟨A1, a1, rfl, hs1, hb1⟩; have hk1 : Below (w.heap.size + 2) ((w.alloc (.cells #[.slice A x.name.length a, .slice B x.key.length b, .bool x.flag, .slice C x.value.length c] 26)).alloc (.cells #[.slice none 0 0, .slice none 0 0, .bool false, .slice none 0 0] 26)) w1 := (Below.refl _ _).drew.next hb1 (by simp); obtain ⟨q0, q1, q2, q3, _⟩ := box4 (Hbox.out _ hk1).1)
      | (go_at_call 61; (with_reducible refine (clone_ok _ B x.key b ?ha h2).mono ?_); (case ha => exact Hb.out.bbelow (Hbox.out _ hk1).2.2.1); rintro e w2 ⟨B1, b1, rfl, hs2, hb2⟩; have hk2 := hk1.next hb2 (by simpa using hk1.size); obtain ⟨r0, r1, r2, r3, _⟩ := box4 (Hbox.out _ hk2).1)
      | (go_at_call 61; (with_reducible refine (clone_ok _ C x.value c ?ha h3).mono ?_); (case ha => exact Hc.out.bbelow (Hbox.out _ hk2).2.2.1); rintro e w3 ⟨C1, c1, rfl, hs3, hb3⟩; have hk3 := hk2.next hb3 (by simpa using hk2.size); obtain ⟨s0, s1, s2, s3, _⟩ := box4 (Hbox.out _ hk3).1; obtain ⟨z0, z1, z2, z3, y0, y1, y2, y3⟩ := box4 (Hbox.out _ hk3).2.1; have hzz := (Hbox.out _ hk3).2.2.2; have hzz1 : w.heap.size + 1 < w3.heap.size := (by omega)))
  all_goals
    go_wp2
    have hf1 := hk1.size
    have hf2 := hb2.size
    have hf3 := hb3.size
    simp at hf1
    refine bodyPost_ret (v := .agg #[.slice A1 x.name.length a1, .slice B1 x.key.length b1, .bool x.flag, .slice C1 x.value.length c1]) (by simp [results, Tryd.results82, go_sem, z0, z1, z2, z3]) rfl ⟨A1, a1, B1, b1, C1, c1, rfl, ?_, ?_, ?_, ?_⟩
    · exact (((hs1.bbelow hb2).bbelow hb3).bless fun b _ h => show From (w.heap.size + 2) b by simpa using h).bsame (((((Same.refl _ _).setCell (fun hq => by simp only [From] at hq; omega) _).setCell (fun hq => by simp only [From] at hq; omega) _).setCell (fun hq => by simp only [From] at hq; omega) _).setCell (fun hq => by simp only [From] at hq; omega) _) |>.blo (by omega)
    · exact (((hs2.bbelow hb3)).bless fun b _ h => show From (w.heap.size + 2) b by simp only [From] at h ⊢; omega).bsame (((((Same.refl _ _).setCell (fun hq => by simp only [From] at hq; omega) _).setCell (fun hq => by simp only [From] at hq; omega) _).setCell (fun hq => by simp only [From] at hq; omega) _).setCell (fun hq => by simp only [From] at hq; omega) _) |>.blo (by omega)
    · exact (hs3.bless fun b _ h => show From (w.heap.size + 2) b by simp only [From] at h ⊢; omega).bsame (((((Same.refl _ _).setCell (fun hq => by simp only [From] at hq; omega) _).setCell (fun hq => by simp only [From] at hq; omega) _).setCell (fun hq => by simp only [From] at hq; omega) _).setCell (fun hq => by simp only [From] at hq; omega) _) |>.blo (by omega)
    · exact ((((Hbox.out _ hk3).2.2.1.setCell (by simp only []; omega) _).setCell (by simp only []; omega) _).setCell (by simp only []; omega) _).setCell (by simp only []; omega) _

end Go.Proofs.YtjgdeeabejoegaaDoor
namespace Go.Proofs.YtjgdeeabejoegaaDoor
open Go.RowKit
set_option linter.unusedVariables false
set_option linter.unusedSimpArgs false

theorem info_tx : (Tryd.prog.info? 77).map (fun i => (i.zero, i.size, i.bytes)) = some (some (.agg #[.int .i64 0, .slice none 0 0, .slice none 0 0]), 3, 56) := by kernel_rfl
theorem Same.of_lt {S : Nat → Prop} {n : Nat} {w w' : World} (h : Below n w w') (hS : ∀ k, S k → k < n) : Same S w w' := ⟨h.size, fun k hk _ => h.block k (hS k hk)⟩
theorem alloc3 (w : World) (a b c : Obj) : (((w.alloc a).alloc b).alloc c).heap[w.heap.size]? = some a ∧ (((w.alloc a).alloc b).alloc c).heap[w.heap.size + 1]? = some b ∧ (((w.alloc a).alloc b).alloc c).heap[w.heap.size + 2]? = some c ∧ (((w.alloc a).alloc b).alloc c).heap.size = w.heap.size + 3 ∧ Below w.heap.size w (((w.alloc a).alloc b).alloc c) := by
  refine ⟨?_, ?_, ?_, by simp, (((Below.refl _ _).alloc (Nat.le_refl _) _).alloc (by simp) _).alloc (by simp; omega) _⟩
  · rw [heap_alloc_old _ _ (by simp; omega), heap_alloc_old _ _ (by simp), heap_alloc_new]
  · rw [heap_alloc_old _ _ (by simp)]
    have := heap_alloc_new (w.alloc a) b
    simpa using this
  · have := heap_alloc_new ((w.alloc a).alloc b) c
    simpa using this
/-- A row of the call's own is so still, where nothing of it has turned; said of more blocks. -/
theorem Own.keep {α : Type} {size : Nat} {R : (Nat → Prop) → World → List Value → α → Prop} {S T S2 : Nat → Prop} {w w' : World} {base base' : Nat} {e : TypeId} {v : Value} {l : List α} (hR : Stays R) (h : Own size R S w base e v l) (hb : Same T w w') (hST : ∀ b, b < w.heap.size → S b → T b) (hv : ∀ b, v.ownBlock = some b → T b) (hS2 : ∀ b, b < w.heap.size → S b → S2 b) (hbase : base' ≤ base) : Own size R S2 w' base' e v l := by
  obtain ⟨xs, h1, h2⟩ := h
  refine ⟨xs, ⟨h1.1, ?_⟩, fun i hi => ?_⟩
  · rcases h1.2 with hn | ⟨g, cap, cur, hv', hb', hh, rest⟩
    · exact .inl hn
    · refine .inr ⟨g, cap, cur, hv', Nat.le_trans hbase hb', ?_, rest⟩
      rw [hb.block g (hv g (by rw [hv']; rfl)) (Array.getElem?_eq_some_iff.1 hh).1]
      exact hh
  · have h3 := hR.less _ (fun b => (S2 b ∧ v.ownBlock ≠ some b) ∧ T b) w _ _ (fun b hb2 hs => ⟨⟨hS2 b hb2 hs.1, hs.2⟩, hST b hb2 hs.1⟩) (h2 i hi)
    have h4 := hR.same _ w w' _ _ ⟨hb.size, fun k hk hk2 => hb.block k hk.2 hk2⟩ h3
    exact hR.less _ _ _ _ _ (fun b _ hs => hs.1) h4
/-- The block of a slice. -/
def blk (A : Option Addr) : Option Nat := A.map (·.block)
theorem own_blk (A : Option Addr) (n c : Nat) : (Value.slice A n c).ownBlock = blk A := by
  cases A <;> rfl
/-- A transaction of the call's own memory: two rows of its own, apart. -/
def TxOwn (H : Nat) (w' : World) (t : Tx) (A : Option Addr) (n : Nat) (B : Option Addr) (m : Nat) : Prop :=
  t.reads.length ≤ n ∧ t.writes.length ≤ m ∧ Own 4 WrR (fun b => From H b ∧ blk B ≠ some b) w' H 26 (.slice A t.reads.length n) t.reads ∧ Own 4 WrR (fun b => From H b ∧ blk A ≠ some b) w' H 34 (.slice B t.writes.length m) t.writes ∧ (∀ b, blk A = some b → blk B ≠ some b)
theorem Own.sl {α : Type} {size : Nat} {R : (Nat → Prop) → World → List Value → α → Prop} {S : Nat → Prop} {w : World} {base : Nat} {e : TypeId} {A : Option Addr} {l : List α} {c : Nat} (hR : Stays R) (h : Own size R S w base e (.slice A l.length c) l) (hS : ∀ b, base ≤ b → blk A = some b → S b) : SL size R S w A l := by
  obtain ⟨xs, h1, h2⟩ := h
  intro hl
  have h1' := h1
  rcases h1.2 with ⟨hn, h0⟩ | ⟨g, cap, cur, hv, hge, hh, hcap, _⟩
  · omega
  · injection hv with hA _ _
    subst hA
    refine ⟨g, 0, rfl, hS g hge rfl, (Array.getElem?_eq_some_iff.1 hh).1, fun i hi => ⟨_, ?_, fun j hj => ?_, hR.less _ _ _ _ _ (fun b _ hs => hs.1) (h2 i hi)⟩⟩
    · rw [List.length_take, List.length_drop, h1'.1]
      have : (i + 1) * size ≤ l.length * size := Nat.mul_le_mul_right _ hi
      rw [Nat.add_mul, Nat.one_mul] at this
      omega
    · have hlt : i * size + j < xs.length := by
        rw [h1'.1]
        have : (i + 1) * size ≤ l.length * size := Nat.mul_le_mul_right _ hi
        rw [Nat.add_mul, Nat.one_mul] at this
        omega
      have hc := h1'.cells (g := g) rfl (i * size + j) xs[i * size + j] (List.getElem?_eq_getElem hlt)
      rw [add_at] at hc
      rw [Nat.add_assoc, hc]
      rw [List.getElem?_take_of_lt hj, List.getElem?_drop, List.getElem?_eq_getElem hlt]
theorem TxOwn.reads {H : Nat} {w' : World} {t : Tx} {A B : Option Addr} {n m : Nat} (h : TxOwn H w' t A n B m) : Ws (fun b => From H b ∧ blk B ≠ some b) w' A t.reads :=
  h.2.2.1.sl wrR_stays fun b hb hA => ⟨hb, h.2.2.2.2 b hA⟩
theorem TxOwn.writes {H : Nat} {w' : World} {t : Tx} {A B : Option Addr} {n m : Nat} (h : TxOwn H w' t A n B m) : Ws (fun b => From H b ∧ blk A ≠ some b) w' B t.writes :=
  h.2.2.2.1.sl wrR_stays fun b hb hB => ⟨hb, fun hA => h.2.2.2.2 b hA hB⟩
/-- The call returns a transaction of its own memory. -/
def RetTxO (w : World) (t : Tx) (e : Ending) (w' : World) : Prop :=
  ∃ A n B m, e = .returned (.agg #[.int .i64 t.start, .slice A t.reads.length n, .slice B t.writes.length m]) ∧ TxOwn w.heap.size w' t A n B m ∧ Below w.heap.size w w'
def RetTx (w : World) (t : Tx) (e : Ending) (w' : World) : Prop :=
  ∃ A n B m, e = .returned (.agg #[.int .i64 t.start, .slice A t.reads.length n, .slice B t.writes.length m]) ∧ t.reads.length ≤ n ∧ t.writes.length ≤ m ∧ Ws (From w.heap.size) w' A t.reads ∧ Ws (From w.heap.size) w' B t.writes ∧ Below w.heap.size w w'
theorem RetTxO.bare {w : World} {t : Tx} {e : Ending} {w' : World} (h : RetTxO w t e w') : RetTx w t e w' := by
  obtain ⟨A, n, B, m, he, ho, hb⟩ := h
  exact ⟨A, n, B, m, he, ho.1, ho.2.1, ho.reads.less wrR_stays fun b _ h => h.1, ho.writes.less wrR_stays fun b _ h => h.1, hb⟩
end Go.Proofs.YtjgdeeabejoegaaDoor
namespace Go.Proofs.YtjgdeeabejoegaaDoor
open Go.RowKit
set_option linter.unusedVariables false
set_option linter.unusedSimpArgs false

set_option maxRecDepth 100000 in
set_option maxHeartbeats 1000000 in
theorem lawSameRead_ok (w : World) (A B C A' B' C' : Option Addr) (x : Wr) (a b c a' b' c' : Nat) (ha : Bs All w A x.name) (hb : Bs All w B x.key) (hc : Bs All w C x.value) (ha' : Bs All w A' x.name) (hb' : Bs All w B' x.key) (hc' : Bs All w C' x.value) :
    Calls Tryd.prog 14 #[.agg #[.slice A x.name.length a, .slice B x.key.length b, .bool x.flag, .slice C x.value.length c], .agg #[.slice A' x.name.length a', .slice B' x.key.length b', .bool x.flag, .slice C' x.value.length c']] w (RetV w (.bool true)) := by
  have Ha := Lib.hid ha
  have Hb := Lib.hid hb
  have Hc := Lib.hid hc
  have Ha' := Lib.hid ha'
  have Hb' := Lib.hid hb'
  have Hc' := Lib.hid hc'
  clear ha hb hc ha' hb' hc'
  go_enter Tryd.func14, Tryd.ntmps14
  go_wp2_with (first
    | (go_at_call_of 21 A; (with_reducible refine (sameBytes_ok _ A A' x.name x.name a a' ?hx ?hy).mono ?_); (case hx => (refine Ha.out.bbelow ?_; repeat' (first | exact Below.refl _ _ | assumption | refine Below.drew ?_ | refine below_drewN ?_ _ | refine Below.alloc ?_ (by first | exact Nat.le_refl _ | omega | (simp; done) | (simp; omega)) _))); (case hy => (refine Ha'.out.bbelow ?_; repeat' (first | exact Below.refl _ _ | assumption | refine Below.drew ?_ | refine below_drewN ?_ _ | refine Below.alloc ?_ (by first | exact Nat.le_refl _ | omega | (simp; done) | (simp; omega)) _))); rintro e w2 ⟨rfl, rfl⟩)
    | (go_at_call_of 21 B; (with_reducible refine (sameBytes_ok _ B B' x.key x.key b b' ?hx ?hy).mono ?_); (case hx => (refine Hb.out.bbelow ?_; repeat' (first | exact Below.refl _ _ | assumption | refine Below.drew ?_ | refine below_drewN ?_ _ | refine Below.alloc ?_ (by first | exact Nat.le_refl _ | omega | (simp; done) | (simp; omega)) _))); (case hy => (refine Hb'.out.bbelow ?_; repeat' (first | exact Below.refl _ _ | assumption | refine Below.drew ?_ | refine below_drewN ?_ _ | refine Below.alloc ?_ (by first | exact Nat.le_refl _ | omega | (simp; done) | (simp; omega)) _))); rintro e w2 ⟨rfl, rfl⟩)
    | (go_at_call_of 21 C; (with_reducible refine (sameBytes_ok _ C C' x.value x.value c c' ?hx ?hy).mono ?_); (case hx => (refine Hc.out.bbelow ?_; repeat' (first | exact Below.refl _ _ | assumption | refine Below.drew ?_ | refine below_drewN ?_ _ | refine Below.alloc ?_ (by first | exact Nat.le_refl _ | omega | (simp; done) | (simp; omega)) _))); (case hy => (refine Hc'.out.bbelow ?_; repeat' (first | exact Below.refl _ _ | assumption | refine Below.drew ?_ | refine below_drewN ?_ _ | refine Below.alloc ?_ (by first | exact Nat.le_refl _ | omega | (simp; done) | (simp; omega)) _))); rintro e w2 ⟨rfl, rfl⟩))
  go_ret
  refine ⟨by simp, ?_⟩
  repeat' (first | exact Below.refl _ _ | assumption | refine Below.drew ?_ | refine below_drewN ?_ _ | refine Below.alloc ?_ (by first | exact Nat.le_refl _ | omega | (simp; done) | (simp; omega)) _)
theorem alloc2 (w : World) (a b : Obj) : ((w.alloc a).alloc b).heap[w.heap.size]? = some a ∧ ((w.alloc a).alloc b).heap[w.heap.size + 1]? = some b ∧ ((w.alloc a).alloc b).heap.size = w.heap.size + 2 ∧ Below w.heap.size w ((w.alloc a).alloc b) := by
  refine ⟨?_, ?_, by simp, ((Below.refl _ _).alloc (Nat.le_refl _) _).alloc (by simp) _⟩
  · rw [heap_alloc_old _ _ (by simp), heap_alloc_new]
  · have := heap_alloc_new (w.alloc a) b
    simpa using this
end Go.Proofs.YtjgdeeabejoegaaDoor
