/- Walks: the closures of package txn, and the searches over them; txn.write and txn.touches. -/
import Derived.Test.YthhcdibimnifaaaSameTxn
import Derived.Test.YthhcdibimnifaaaTapeCheck
namespace Go.Proofs.Ythhcdibimnifaaa
open Go.RowKit
set_option linter.unusedVariables false
set_option linter.unusedSimpArgs false

/-- The first place at which q holds; -1: there is none. -/
def idxS (q : Wr → Bool) (l : List Wr) : Int := match l.findIdx? q with | some i => (i : Int) | none => -1
theorem idx_none {q : Wr → Bool} {l : List Wr} (h : l.any q = false) : idxS q l = -1 := by
  have h' : l.findIdx? q = none := by rw [List.findIdx?_eq_none_iff]; simpa using h
  simp [idxS, h']
theorem idx_here {q : Wr → Bool} {l : List Wr} {k : Nat} (hk : k < l.length) (h : (l.take k).any q = false) (hq : q l[k] = true) : idxS q l = k := by
  have h' : l.findIdx? q = some k := by
    rw [List.findIdx?_eq_some_iff_getElem]
    refine ⟨hk, hq, fun j hj => ?_⟩
    simp only [List.any_eq_false] at h
    exact h _ (List.mem_take_iff_getElem.2 ⟨j, by omega, rfl⟩)
  simp [idxS, h']
theorem idx_any (q : Wr → Bool) (l : List Wr) : decide (0 ≤ idxS q l) = l.any q := by
  unfold idxS
  cases h : l.findIdx? q with
  | none =>
    rw [List.findIdx?_eq_none_iff] at h
    have : l.any q = false := by simpa using h
    rw [this]; rfl
  | some i =>
    rw [List.findIdx?_eq_some_iff_getElem] at h
    obtain ⟨h1, h2, _⟩ := h
    have : l.any q = true := List.any_eq_true.2 ⟨_, List.getElem_mem h1, h2⟩
    rw [this]; simp
theorem any_next {q : Wr → Bool} {l : List Wr} {k : Nat} (hk : k < l.length) (h : (l.take k).any q = false) (hq : q l[k] = false) : (l.take (k + 1)).any q = false := by
  rw [take_snoc l k hk, List.any_append, h]
  simp [hq]
theorem cmp3_pos {a b : List UInt8} (h : lt b a = true) : 0 < cmp3 a b := by
  have h1 := lt_asymm _ _ h
  have h2 : a ≠ b := fun e => by subst e; rw [lt_irrefl] at h; cases h
  simp [cmp3, h1, h2]
theorem cmp3_nonpos {a b : List UInt8} (h : lt b a = false) : cmp3 a b ≤ 0 := by
  unfold cmp3
  split
  · decide
  · split
    · decide
    · rename_i h1 h2
      exact absurd (lt_tri _ _ (by simpa using h1) h) h2
/-- Does a write go where a read looked? -/
def touchS (r x : Wr) : Bool := r.name == x.name && (if r.flag = true then !lt x.key r.key && !lt r.value x.key else r.key == x.key)

set_option maxRecDepth 100000 in
set_option maxHeartbeats 2000000 in
theorem progTouches_ok (w : World) (A B C A' B' C' : Option Addr) (x y : Wr) (a b c a' b' c' : Nat) (ha : Bs All w A x.name) (hb : Bs All w B x.key) (hc : Bs All w C x.value) (ha' : Bs All w A' y.name) (hb' : Bs All w B' y.key) (hc' : Bs All w C' y.value) :
    Calls Try.prog 135 #[.agg #[.slice A x.name.length a, .slice B x.key.length b, .bool x.flag, .slice C x.value.length c], .agg #[.slice A' y.name.length a', .slice B' y.key.length b', .bool y.flag, .slice C' y.value.length c']] w (RetV w (.bool (touchS x y))) := by
  have Ha := Lib.hid ha
  have Hb := Lib.hid hb
  have Hc := Lib.hid hc
  have Ha' := Lib.hid ha'
  have Hb' := Lib.hid hb'
  have Hc' := Lib.hid hc'
  clear ha hb hc ha' hb' hc'
  obtain ⟨xn, xk, xf, xv⟩ := x
  obtain ⟨yn, yk, yf, yv⟩ := y
  dsimp only at *
  rcases Bool.eq_false_or_eq_true (xn == yn) with d1 | d1
  ·
    cases xf with
    | true =>
      rcases Bool.eq_false_or_eq_true (lt yk xk) with d2 | d2
      ·
        have e2 : decide (0 ≤ cmp3 yk xk) = false := by have := cmp3_neg d2; rw [decide_eq_false_iff_not]; omega
        go_enter Try.func135, Try.ntmps135
        go_wp2_with (first
      | (go_at_call_of 145 A; (with_reducible refine (bytesEqual_ok _ A A' xn yn a a' ?hx ?hy).mono ?_); (case hx => (refine Ha.out.bbelow ?_; repeat' (first | exact Below.refl _ _ | assumption | refine Below.drew ?_ | refine below_drewN ?_ _ | refine Below.alloc ?_ (by first | exact Nat.le_refl _ | omega | (simp; done) | (simp; omega)) _))); (case hy => (refine Ha'.out.bbelow ?_; repeat' (first | exact Below.refl _ _ | assumption | refine Below.drew ?_ | refine below_drewN ?_ _ | refine Below.alloc ?_ (by first | exact Nat.le_refl _ | omega | (simp; done) | (simp; omega)) _))); rintro e w2 ⟨rfl, rfl⟩)
      | (go_at_call_of 145 B; (with_reducible refine (bytesEqual_ok _ B B' xk yk b b' ?hx ?hy).mono ?_); (case hx => (refine Hb.out.bbelow ?_; repeat' (first | exact Below.refl _ _ | assumption | refine Below.drew ?_ | refine below_drewN ?_ _ | refine Below.alloc ?_ (by first | exact Nat.le_refl _ | omega | (simp; done) | (simp; omega)) _))); (case hy => (refine Hb'.out.bbelow ?_; repeat' (first | exact Below.refl _ _ | assumption | refine Below.drew ?_ | refine below_drewN ?_ _ | refine Below.alloc ?_ (by first | exact Nat.le_refl _ | omega | (simp; done) | (simp; omega)) _))); rintro e w2 ⟨rfl, rfl⟩)
      | (go_at_call_of 103 B; (with_reducible refine (bytesCompare_ok _ B' B yk xk b' b ?hx ?hy).mono ?_); (case hx => (refine Hb'.out.bbelow ?_; repeat' (first | exact Below.refl _ _ | assumption | refine Below.drew ?_ | refine below_drewN ?_ _ | refine Below.alloc ?_ (by first | exact Nat.le_refl _ | omega | (simp; done) | (simp; omega)) _))); (case hy => (refine Hb.out.bbelow ?_; repeat' (first | exact Below.refl _ _ | assumption | refine Below.drew ?_ | refine below_drewN ?_ _ | refine Below.alloc ?_ (by first | exact Nat.le_refl _ | omega | (simp; done) | (simp; omega)) _))); rintro e w2 ⟨rfl, rfl⟩)
      | (go_at_call_of 103 C; (with_reducible refine (bytesCompare_ok _ B' C yk xv b' c ?hx ?hy).mono ?_); (case hx => (refine Hb'.out.bbelow ?_; repeat' (first | exact Below.refl _ _ | assumption | refine Below.drew ?_ | refine below_drewN ?_ _ | refine Below.alloc ?_ (by first | exact Nat.le_refl _ | omega | (simp; done) | (simp; omega)) _))); (case hy => (refine Hc.out.bbelow ?_; repeat' (first | exact Below.refl _ _ | assumption | refine Below.drew ?_ | refine below_drewN ?_ _ | refine Below.alloc ?_ (by first | exact Nat.le_refl _ | omega | (simp; done) | (simp; omega)) _))); rintro e w2 ⟨rfl, rfl⟩))
        go_ret
        refine ⟨ret_bool (by simp [touchS, d1, d2]), ?_⟩
        repeat' (first | exact Below.refl _ _ | assumption | refine Below.drew ?_ | refine below_drewN ?_ _ | refine Below.alloc ?_ (by first | exact Nat.le_refl _ | omega | (simp; done) | (simp; omega)) _)
      ·
        have e2 : decide (0 ≤ cmp3 yk xk) = true := by have := cmp3_nonneg d2; rw [decide_eq_true_eq]; omega
        rcases Bool.eq_false_or_eq_true (lt xv yk) with d3 | d3
        ·
          have e3 : decide (cmp3 yk xv ≤ 0) = false := by have := cmp3_pos d3; rw [decide_eq_false_iff_not]; omega
          go_enter Try.func135, Try.ntmps135
          go_wp2_with (first
      | (go_at_call_of 145 A; (with_reducible refine (bytesEqual_ok _ A A' xn yn a a' ?hx ?hy).mono ?_); (case hx => (refine Ha.out.bbelow ?_; repeat' (first | exact Below.refl _ _ | assumption | refine Below.drew ?_ | refine below_drewN ?_ _ | refine Below.alloc ?_ (by first | exact Nat.le_refl _ | omega | (simp; done) | (simp; omega)) _))); (case hy => (refine Ha'.out.bbelow ?_; repeat' (first | exact Below.refl _ _ | assumption | refine Below.drew ?_ | refine below_drewN ?_ _ | refine Below.alloc ?_ (by first | exact Nat.le_refl _ | omega | (simp; done) | (simp; omega)) _))); rintro e w2 ⟨rfl, rfl⟩)
      | (go_at_call_of 145 B; (with_reducible refine (bytesEqual_ok _ B B' xk yk b b' ?hx ?hy).mono ?_); (case hx => (refine Hb.out.bbelow ?_; repeat' (first | exact Below.refl _ _ | assumption | refine Below.drew ?_ | refine below_drewN ?_ _ | refine Below.alloc ?_ (by first | exact Nat.le_refl _ | omega | (simp; done) | (simp; omega)) _))); (case hy => (refine Hb'.out.bbelow ?_; repeat' (first | exact Below.refl _ _ | assumption | refine Below.drew ?_ | refine below_drewN ?_ _ | refine Below.alloc ?_ (by first | exact Nat.le_refl _ | omega | (simp; done) | (simp; omega)) _))); rintro e w2 ⟨rfl, rfl⟩)
      | (go_at_call_of 103 B; (with_reducible refine (bytesCompare_ok _ B' B yk xk b' b ?hx ?hy).mono ?_); (case hx => (refine Hb'.out.bbelow ?_; repeat' (first | exact Below.refl _ _ | assumption | refine Below.drew ?_ | refine below_drewN ?_ _ | refine Below.alloc ?_ (by first | exact Nat.le_refl _ | omega | (simp; done) | (simp; omega)) _))); (case hy => (refine Hb.out.bbelow ?_; repeat' (first | exact Below.refl _ _ | assumption | refine Below.drew ?_ | refine below_drewN ?_ _ | refine Below.alloc ?_ (by first | exact Nat.le_refl _ | omega | (simp; done) | (simp; omega)) _))); rintro e w2 ⟨rfl, rfl⟩)
      | (go_at_call_of 103 C; (with_reducible refine (bytesCompare_ok _ B' C yk xv b' c ?hx ?hy).mono ?_); (case hx => (refine Hb'.out.bbelow ?_; repeat' (first | exact Below.refl _ _ | assumption | refine Below.drew ?_ | refine below_drewN ?_ _ | refine Below.alloc ?_ (by first | exact Nat.le_refl _ | omega | (simp; done) | (simp; omega)) _))); (case hy => (refine Hc.out.bbelow ?_; repeat' (first | exact Below.refl _ _ | assumption | refine Below.drew ?_ | refine below_drewN ?_ _ | refine Below.alloc ?_ (by first | exact Nat.le_refl _ | omega | (simp; done) | (simp; omega)) _))); rintro e w2 ⟨rfl, rfl⟩))
          go_ret
          refine ⟨ret_bool (by simp [touchS, d1, d2, d3]), ?_⟩
          repeat' (first | exact Below.refl _ _ | assumption | refine Below.drew ?_ | refine below_drewN ?_ _ | refine Below.alloc ?_ (by first | exact Nat.le_refl _ | omega | (simp; done) | (simp; omega)) _)
        ·
          have e3 : decide (cmp3 yk xv ≤ 0) = true := by have := cmp3_nonpos d3; rw [decide_eq_true_eq]; omega
          go_enter Try.func135, Try.ntmps135
          go_wp2_with (first
      | (go_at_call_of 145 A; (with_reducible refine (bytesEqual_ok _ A A' xn yn a a' ?hx ?hy).mono ?_); (case hx => (refine Ha.out.bbelow ?_; repeat' (first | exact Below.refl _ _ | assumption | refine Below.drew ?_ | refine below_drewN ?_ _ | refine Below.alloc ?_ (by first | exact Nat.le_refl _ | omega | (simp; done) | (simp; omega)) _))); (case hy => (refine Ha'.out.bbelow ?_; repeat' (first | exact Below.refl _ _ | assumption | refine Below.drew ?_ | refine below_drewN ?_ _ | refine Below.alloc ?_ (by first | exact Nat.le_refl _ | omega | (simp; done) | (simp; omega)) _))); rintro e w2 ⟨rfl, rfl⟩)
      | (go_at_call_of 145 B; (with_reducible refine (bytesEqual_ok _ B B' xk yk b b' ?hx ?hy).mono ?_); (case hx => (refine Hb.out.bbelow ?_; repeat' (first | exact Below.refl _ _ | assumption | refine Below.drew ?_ | refine below_drewN ?_ _ | refine Below.alloc ?_ (by first | exact Nat.le_refl _ | omega | (simp; done) | (simp; omega)) _))); (case hy => (refine Hb'.out.bbelow ?_; repeat' (first | exact Below.refl _ _ | assumption | refine Below.drew ?_ | refine below_drewN ?_ _ | refine Below.alloc ?_ (by first | exact Nat.le_refl _ | omega | (simp; done) | (simp; omega)) _))); rintro e w2 ⟨rfl, rfl⟩)
      | (go_at_call_of 103 B; (with_reducible refine (bytesCompare_ok _ B' B yk xk b' b ?hx ?hy).mono ?_); (case hx => (refine Hb'.out.bbelow ?_; repeat' (first | exact Below.refl _ _ | assumption | refine Below.drew ?_ | refine below_drewN ?_ _ | refine Below.alloc ?_ (by first | exact Nat.le_refl _ | omega | (simp; done) | (simp; omega)) _))); (case hy => (refine Hb.out.bbelow ?_; repeat' (first | exact Below.refl _ _ | assumption | refine Below.drew ?_ | refine below_drewN ?_ _ | refine Below.alloc ?_ (by first | exact Nat.le_refl _ | omega | (simp; done) | (simp; omega)) _))); rintro e w2 ⟨rfl, rfl⟩)
      | (go_at_call_of 103 C; (with_reducible refine (bytesCompare_ok _ B' C yk xv b' c ?hx ?hy).mono ?_); (case hx => (refine Hb'.out.bbelow ?_; repeat' (first | exact Below.refl _ _ | assumption | refine Below.drew ?_ | refine below_drewN ?_ _ | refine Below.alloc ?_ (by first | exact Nat.le_refl _ | omega | (simp; done) | (simp; omega)) _))); (case hy => (refine Hc.out.bbelow ?_; repeat' (first | exact Below.refl _ _ | assumption | refine Below.drew ?_ | refine below_drewN ?_ _ | refine Below.alloc ?_ (by first | exact Nat.le_refl _ | omega | (simp; done) | (simp; omega)) _))); rintro e w2 ⟨rfl, rfl⟩))
          go_ret
          refine ⟨ret_bool (by simp [touchS, d1, d2, d3]), ?_⟩
          repeat' (first | exact Below.refl _ _ | assumption | refine Below.drew ?_ | refine below_drewN ?_ _ | refine Below.alloc ?_ (by first | exact Nat.le_refl _ | omega | (simp; done) | (simp; omega)) _)
    | false =>
      go_enter Try.func135, Try.ntmps135
      go_wp2_with (first
      | (go_at_call_of 145 A; (with_reducible refine (bytesEqual_ok _ A A' xn yn a a' ?hx ?hy).mono ?_); (case hx => (refine Ha.out.bbelow ?_; repeat' (first | exact Below.refl _ _ | assumption | refine Below.drew ?_ | refine below_drewN ?_ _ | refine Below.alloc ?_ (by first | exact Nat.le_refl _ | omega | (simp; done) | (simp; omega)) _))); (case hy => (refine Ha'.out.bbelow ?_; repeat' (first | exact Below.refl _ _ | assumption | refine Below.drew ?_ | refine below_drewN ?_ _ | refine Below.alloc ?_ (by first | exact Nat.le_refl _ | omega | (simp; done) | (simp; omega)) _))); rintro e w2 ⟨rfl, rfl⟩)
      | (go_at_call_of 145 B; (with_reducible refine (bytesEqual_ok _ B B' xk yk b b' ?hx ?hy).mono ?_); (case hx => (refine Hb.out.bbelow ?_; repeat' (first | exact Below.refl _ _ | assumption | refine Below.drew ?_ | refine below_drewN ?_ _ | refine Below.alloc ?_ (by first | exact Nat.le_refl _ | omega | (simp; done) | (simp; omega)) _))); (case hy => (refine Hb'.out.bbelow ?_; repeat' (first | exact Below.refl _ _ | assumption | refine Below.drew ?_ | refine below_drewN ?_ _ | refine Below.alloc ?_ (by first | exact Nat.le_refl _ | omega | (simp; done) | (simp; omega)) _))); rintro e w2 ⟨rfl, rfl⟩)
      | (go_at_call_of 103 B; (with_reducible refine (bytesCompare_ok _ B' B yk xk b' b ?hx ?hy).mono ?_); (case hx => (refine Hb'.out.bbelow ?_; repeat' (first | exact Below.refl _ _ | assumption | refine Below.drew ?_ | refine below_drewN ?_ _ | refine Below.alloc ?_ (by first | exact Nat.le_refl _ | omega | (simp; done) | (simp; omega)) _))); (case hy => (refine Hb.out.bbelow ?_; repeat' (first | exact Below.refl _ _ | assumption | refine Below.drew ?_ | refine below_drewN ?_ _ | refine Below.alloc ?_ (by first | exact Nat.le_refl _ | omega | (simp; done) | (simp; omega)) _))); rintro e w2 ⟨rfl, rfl⟩)
      | (go_at_call_of 103 C; (with_reducible refine (bytesCompare_ok _ B' C yk xv b' c ?hx ?hy).mono ?_); (case hx => (refine Hb'.out.bbelow ?_; repeat' (first | exact Below.refl _ _ | assumption | refine Below.drew ?_ | refine below_drewN ?_ _ | refine Below.alloc ?_ (by first | exact Nat.le_refl _ | omega | (simp; done) | (simp; omega)) _))); (case hy => (refine Hc.out.bbelow ?_; repeat' (first | exact Below.refl _ _ | assumption | refine Below.drew ?_ | refine below_drewN ?_ _ | refine Below.alloc ?_ (by first | exact Nat.le_refl _ | omega | (simp; done) | (simp; omega)) _))); rintro e w2 ⟨rfl, rfl⟩))
      go_ret
      refine ⟨ret_bool (by simp [touchS, d1]), ?_⟩
      repeat' (first | exact Below.refl _ _ | assumption | refine Below.drew ?_ | refine below_drewN ?_ _ | refine Below.alloc ?_ (by first | exact Nat.le_refl _ | omega | (simp; done) | (simp; omega)) _)
  ·
    go_enter Try.func135, Try.ntmps135
    go_wp2_with (first
      | (go_at_call_of 145 A; (with_reducible refine (bytesEqual_ok _ A A' xn yn a a' ?hx ?hy).mono ?_); (case hx => (refine Ha.out.bbelow ?_; repeat' (first | exact Below.refl _ _ | assumption | refine Below.drew ?_ | refine below_drewN ?_ _ | refine Below.alloc ?_ (by first | exact Nat.le_refl _ | omega | (simp; done) | (simp; omega)) _))); (case hy => (refine Ha'.out.bbelow ?_; repeat' (first | exact Below.refl _ _ | assumption | refine Below.drew ?_ | refine below_drewN ?_ _ | refine Below.alloc ?_ (by first | exact Nat.le_refl _ | omega | (simp; done) | (simp; omega)) _))); rintro e w2 ⟨rfl, rfl⟩)
      | (go_at_call_of 145 B; (with_reducible refine (bytesEqual_ok _ B B' xk yk b b' ?hx ?hy).mono ?_); (case hx => (refine Hb.out.bbelow ?_; repeat' (first | exact Below.refl _ _ | assumption | refine Below.drew ?_ | refine below_drewN ?_ _ | refine Below.alloc ?_ (by first | exact Nat.le_refl _ | omega | (simp; done) | (simp; omega)) _))); (case hy => (refine Hb'.out.bbelow ?_; repeat' (first | exact Below.refl _ _ | assumption | refine Below.drew ?_ | refine below_drewN ?_ _ | refine Below.alloc ?_ (by first | exact Nat.le_refl _ | omega | (simp; done) | (simp; omega)) _))); rintro e w2 ⟨rfl, rfl⟩)
      | (go_at_call_of 103 B; (with_reducible refine (bytesCompare_ok _ B' B yk xk b' b ?hx ?hy).mono ?_); (case hx => (refine Hb'.out.bbelow ?_; repeat' (first | exact Below.refl _ _ | assumption | refine Below.drew ?_ | refine below_drewN ?_ _ | refine Below.alloc ?_ (by first | exact Nat.le_refl _ | omega | (simp; done) | (simp; omega)) _))); (case hy => (refine Hb.out.bbelow ?_; repeat' (first | exact Below.refl _ _ | assumption | refine Below.drew ?_ | refine below_drewN ?_ _ | refine Below.alloc ?_ (by first | exact Nat.le_refl _ | omega | (simp; done) | (simp; omega)) _))); rintro e w2 ⟨rfl, rfl⟩)
      | (go_at_call_of 103 C; (with_reducible refine (bytesCompare_ok _ B' C yk xv b' c ?hx ?hy).mono ?_); (case hx => (refine Hb'.out.bbelow ?_; repeat' (first | exact Below.refl _ _ | assumption | refine Below.drew ?_ | refine below_drewN ?_ _ | refine Below.alloc ?_ (by first | exact Nat.le_refl _ | omega | (simp; done) | (simp; omega)) _))); (case hy => (refine Hc.out.bbelow ?_; repeat' (first | exact Below.refl _ _ | assumption | refine Below.drew ?_ | refine below_drewN ?_ _ | refine Below.alloc ?_ (by first | exact Nat.le_refl _ | omega | (simp; done) | (simp; omega)) _))); rintro e w2 ⟨rfl, rfl⟩))
    go_ret
    refine ⟨ret_bool (by simp [touchS, d1]), ?_⟩
    repeat' (first | exact Below.refl _ _ | assumption | refine Below.drew ?_ | refine below_drewN ?_ _ | refine Below.alloc ?_ (by first | exact Nat.le_refl _ | omega | (simp; done) | (simp; omega)) _)
set_option maxRecDepth 100000 in
set_option maxHeartbeats 2000000 in
theorem refTouched_ok (w : World) (A B C A' B' C' : Option Addr) (x y : Wr) (a b c a' b' c' : Nat) (ha : Bs All w A x.name) (hb : Bs All w B x.key) (hc : Bs All w C x.value) (ha' : Bs All w A' y.name) (hb' : Bs All w B' y.key) (hc' : Bs All w C' y.value) :
    Calls Try.prog 136 #[.agg #[.slice A x.name.length a, .slice B x.key.length b, .bool x.flag, .slice C x.value.length c], .agg #[.slice A' y.name.length a', .slice B' y.key.length b', .bool y.flag, .slice C' y.value.length c']] w (RetV w (.bool (touchS x y))) := by
  have Ha := Lib.hid ha
  have Hb := Lib.hid hb
  have Hc := Lib.hid hc
  have Ha' := Lib.hid ha'
  have Hb' := Lib.hid hb'
  have Hc' := Lib.hid hc'
  clear ha hb hc ha' hb' hc'
  obtain ⟨xn, xk, xf, xv⟩ := x
  obtain ⟨yn, yk, yf, yv⟩ := y
  dsimp only at *
  rcases Bool.eq_false_or_eq_true (xn == yn) with d1 | d1
  ·
    cases xf with
    | true =>
      rcases Bool.eq_false_or_eq_true (lt yk xk) with d2 | d2
      ·
        go_enter Try.func136, Try.ntmps136
        go_wp2_with (first
      | (go_at_call_of 89 A; (with_reducible refine (refSameBytes_ok _ A A' xn yn a a' ?hx ?hy).mono ?_); (case hx => (refine Ha.out.bbelow ?_; repeat' (first | exact Below.refl _ _ | assumption | refine Below.drew ?_ | refine below_drewN ?_ _ | refine Below.alloc ?_ (by first | exact Nat.le_refl _ | omega | (simp; done) | (simp; omega)) _))); (case hy => (refine Ha'.out.bbelow ?_; repeat' (first | exact Below.refl _ _ | assumption | refine Below.drew ?_ | refine below_drewN ?_ _ | refine Below.alloc ?_ (by first | exact Nat.le_refl _ | omega | (simp; done) | (simp; omega)) _))); rintro e w2 ⟨rfl, rfl⟩)
      | (go_at_call_of 89 B; (with_reducible refine (refSameBytes_ok _ B B' xk yk b b' ?hx ?hy).mono ?_); (case hx => (refine Hb.out.bbelow ?_; repeat' (first | exact Below.refl _ _ | assumption | refine Below.drew ?_ | refine below_drewN ?_ _ | refine Below.alloc ?_ (by first | exact Nat.le_refl _ | omega | (simp; done) | (simp; omega)) _))); (case hy => (refine Hb'.out.bbelow ?_; repeat' (first | exact Below.refl _ _ | assumption | refine Below.drew ?_ | refine below_drewN ?_ _ | refine Below.alloc ?_ (by first | exact Nat.le_refl _ | omega | (simp; done) | (simp; omega)) _))); rintro e w2 ⟨rfl, rfl⟩)
      | (go_at_call_of 93 B; (with_reducible refine (before_ok _ B' B yk xk b' b ?hx ?hy).mono ?_); (case hx => (refine Hb'.out.bbelow ?_; repeat' (first | exact Below.refl _ _ | assumption | refine Below.drew ?_ | refine below_drewN ?_ _ | refine Below.alloc ?_ (by first | exact Nat.le_refl _ | omega | (simp; done) | (simp; omega)) _))); (case hy => (refine Hb.out.bbelow ?_; repeat' (first | exact Below.refl _ _ | assumption | refine Below.drew ?_ | refine below_drewN ?_ _ | refine Below.alloc ?_ (by first | exact Nat.le_refl _ | omega | (simp; done) | (simp; omega)) _))); rintro e w2 ⟨rfl, rfl⟩)
      | (go_at_call_of 93 C; (with_reducible refine (before_ok _ C B' xv yk c b' ?hx ?hy).mono ?_); (case hx => (refine Hc.out.bbelow ?_; repeat' (first | exact Below.refl _ _ | assumption | refine Below.drew ?_ | refine below_drewN ?_ _ | refine Below.alloc ?_ (by first | exact Nat.le_refl _ | omega | (simp; done) | (simp; omega)) _))); (case hy => (refine Hb'.out.bbelow ?_; repeat' (first | exact Below.refl _ _ | assumption | refine Below.drew ?_ | refine below_drewN ?_ _ | refine Below.alloc ?_ (by first | exact Nat.le_refl _ | omega | (simp; done) | (simp; omega)) _))); rintro e w2 ⟨rfl, rfl⟩))
        go_ret
        refine ⟨ret_bool (by simp [touchS, d1, d2]), ?_⟩
        repeat' (first | exact Below.refl _ _ | assumption | refine Below.drew ?_ | refine below_drewN ?_ _ | refine Below.alloc ?_ (by first | exact Nat.le_refl _ | omega | (simp; done) | (simp; omega)) _)
      ·
        rcases Bool.eq_false_or_eq_true (lt xv yk) with d3 | d3
        ·
          go_enter Try.func136, Try.ntmps136
          go_wp2_with (first
      | (go_at_call_of 89 A; (with_reducible refine (refSameBytes_ok _ A A' xn yn a a' ?hx ?hy).mono ?_); (case hx => (refine Ha.out.bbelow ?_; repeat' (first | exact Below.refl _ _ | assumption | refine Below.drew ?_ | refine below_drewN ?_ _ | refine Below.alloc ?_ (by first | exact Nat.le_refl _ | omega | (simp; done) | (simp; omega)) _))); (case hy => (refine Ha'.out.bbelow ?_; repeat' (first | exact Below.refl _ _ | assumption | refine Below.drew ?_ | refine below_drewN ?_ _ | refine Below.alloc ?_ (by first | exact Nat.le_refl _ | omega | (simp; done) | (simp; omega)) _))); rintro e w2 ⟨rfl, rfl⟩)
      | (go_at_call_of 89 B; (with_reducible refine (refSameBytes_ok _ B B' xk yk b b' ?hx ?hy).mono ?_); (case hx => (refine Hb.out.bbelow ?_; repeat' (first | exact Below.refl _ _ | assumption | refine Below.drew ?_ | refine below_drewN ?_ _ | refine Below.alloc ?_ (by first | exact Nat.le_refl _ | omega | (simp; done) | (simp; omega)) _))); (case hy => (refine Hb'.out.bbelow ?_; repeat' (first | exact Below.refl _ _ | assumption | refine Below.drew ?_ | refine below_drewN ?_ _ | refine Below.alloc ?_ (by first | exact Nat.le_refl _ | omega | (simp; done) | (simp; omega)) _))); rintro e w2 ⟨rfl, rfl⟩)
      | (go_at_call_of 93 B; (with_reducible refine (before_ok _ B' B yk xk b' b ?hx ?hy).mono ?_); (case hx => (refine Hb'.out.bbelow ?_; repeat' (first | exact Below.refl _ _ | assumption | refine Below.drew ?_ | refine below_drewN ?_ _ | refine Below.alloc ?_ (by first | exact Nat.le_refl _ | omega | (simp; done) | (simp; omega)) _))); (case hy => (refine Hb.out.bbelow ?_; repeat' (first | exact Below.refl _ _ | assumption | refine Below.drew ?_ | refine below_drewN ?_ _ | refine Below.alloc ?_ (by first | exact Nat.le_refl _ | omega | (simp; done) | (simp; omega)) _))); rintro e w2 ⟨rfl, rfl⟩)
      | (go_at_call_of 93 C; (with_reducible refine (before_ok _ C B' xv yk c b' ?hx ?hy).mono ?_); (case hx => (refine Hc.out.bbelow ?_; repeat' (first | exact Below.refl _ _ | assumption | refine Below.drew ?_ | refine below_drewN ?_ _ | refine Below.alloc ?_ (by first | exact Nat.le_refl _ | omega | (simp; done) | (simp; omega)) _))); (case hy => (refine Hb'.out.bbelow ?_; repeat' (first | exact Below.refl _ _ | assumption | refine Below.drew ?_ | refine below_drewN ?_ _ | refine Below.alloc ?_ (by first | exact Nat.le_refl _ | omega | (simp; done) | (simp; omega)) _))); rintro e w2 ⟨rfl, rfl⟩))
          go_ret
          refine ⟨ret_bool (by simp [touchS, d1, d2, d3]), ?_⟩
          repeat' (first | exact Below.refl _ _ | assumption | refine Below.drew ?_ | refine below_drewN ?_ _ | refine Below.alloc ?_ (by first | exact Nat.le_refl _ | omega | (simp; done) | (simp; omega)) _)
        ·
          go_enter Try.func136, Try.ntmps136
          go_wp2_with (first
      | (go_at_call_of 89 A; (with_reducible refine (refSameBytes_ok _ A A' xn yn a a' ?hx ?hy).mono ?_); (case hx => (refine Ha.out.bbelow ?_; repeat' (first | exact Below.refl _ _ | assumption | refine Below.drew ?_ | refine below_drewN ?_ _ | refine Below.alloc ?_ (by first | exact Nat.le_refl _ | omega | (simp; done) | (simp; omega)) _))); (case hy => (refine Ha'.out.bbelow ?_; repeat' (first | exact Below.refl _ _ | assumption | refine Below.drew ?_ | refine below_drewN ?_ _ | refine Below.alloc ?_ (by first | exact Nat.le_refl _ | omega | (simp; done) | (simp; omega)) _))); rintro e w2 ⟨rfl, rfl⟩)
      | (go_at_call_of 89 B; (with_reducible refine (refSameBytes_ok _ B B' xk yk b b' ?hx ?hy).mono ?_); (case hx => (refine Hb.out.bbelow ?_; repeat' (first | exact Below.refl _ _ | assumption | refine Below.drew ?_ | refine below_drewN ?_ _ | refine Below.alloc ?_ (by first | exact Nat.le_refl _ | omega | (simp; done) | (simp; omega)) _))); (case hy => (refine Hb'.out.bbelow ?_; repeat' (first | exact Below.refl _ _ | assumption | refine Below.drew ?_ | refine below_drewN ?_ _ | refine Below.alloc ?_ (by first | exact Nat.le_refl _ | omega | (simp; done) | (simp; omega)) _))); rintro e w2 ⟨rfl, rfl⟩)
      | (go_at_call_of 93 B; (with_reducible refine (before_ok _ B' B yk xk b' b ?hx ?hy).mono ?_); (case hx => (refine Hb'.out.bbelow ?_; repeat' (first | exact Below.refl _ _ | assumption | refine Below.drew ?_ | refine below_drewN ?_ _ | refine Below.alloc ?_ (by first | exact Nat.le_refl _ | omega | (simp; done) | (simp; omega)) _))); (case hy => (refine Hb.out.bbelow ?_; repeat' (first | exact Below.refl _ _ | assumption | refine Below.drew ?_ | refine below_drewN ?_ _ | refine Below.alloc ?_ (by first | exact Nat.le_refl _ | omega | (simp; done) | (simp; omega)) _))); rintro e w2 ⟨rfl, rfl⟩)
      | (go_at_call_of 93 C; (with_reducible refine (before_ok _ C B' xv yk c b' ?hx ?hy).mono ?_); (case hx => (refine Hc.out.bbelow ?_; repeat' (first | exact Below.refl _ _ | assumption | refine Below.drew ?_ | refine below_drewN ?_ _ | refine Below.alloc ?_ (by first | exact Nat.le_refl _ | omega | (simp; done) | (simp; omega)) _))); (case hy => (refine Hb'.out.bbelow ?_; repeat' (first | exact Below.refl _ _ | assumption | refine Below.drew ?_ | refine below_drewN ?_ _ | refine Below.alloc ?_ (by first | exact Nat.le_refl _ | omega | (simp; done) | (simp; omega)) _))); rintro e w2 ⟨rfl, rfl⟩))
          go_ret
          refine ⟨ret_bool (by simp [touchS, d1, d2, d3]), ?_⟩
          repeat' (first | exact Below.refl _ _ | assumption | refine Below.drew ?_ | refine below_drewN ?_ _ | refine Below.alloc ?_ (by first | exact Nat.le_refl _ | omega | (simp; done) | (simp; omega)) _)
    | false =>
      go_enter Try.func136, Try.ntmps136
      go_wp2_with (first
      | (go_at_call_of 89 A; (with_reducible refine (refSameBytes_ok _ A A' xn yn a a' ?hx ?hy).mono ?_); (case hx => (refine Ha.out.bbelow ?_; repeat' (first | exact Below.refl _ _ | assumption | refine Below.drew ?_ | refine below_drewN ?_ _ | refine Below.alloc ?_ (by first | exact Nat.le_refl _ | omega | (simp; done) | (simp; omega)) _))); (case hy => (refine Ha'.out.bbelow ?_; repeat' (first | exact Below.refl _ _ | assumption | refine Below.drew ?_ | refine below_drewN ?_ _ | refine Below.alloc ?_ (by first | exact Nat.le_refl _ | omega | (simp; done) | (simp; omega)) _))); rintro e w2 ⟨rfl, rfl⟩)
      | (go_at_call_of 89 B; (with_reducible refine (refSameBytes_ok _ B B' xk yk b b' ?hx ?hy).mono ?_); (case hx => (refine Hb.out.bbelow ?_; repeat' (first | exact Below.refl _ _ | assumption | refine Below.drew ?_ | refine below_drewN ?_ _ | refine Below.alloc ?_ (by first | exact Nat.le_refl _ | omega | (simp; done) | (simp; omega)) _))); (case hy => (refine Hb'.out.bbelow ?_; repeat' (first | exact Below.refl _ _ | assumption | refine Below.drew ?_ | refine below_drewN ?_ _ | refine Below.alloc ?_ (by first | exact Nat.le_refl _ | omega | (simp; done) | (simp; omega)) _))); rintro e w2 ⟨rfl, rfl⟩)
      | (go_at_call_of 93 B; (with_reducible refine (before_ok _ B' B yk xk b' b ?hx ?hy).mono ?_); (case hx => (refine Hb'.out.bbelow ?_; repeat' (first | exact Below.refl _ _ | assumption | refine Below.drew ?_ | refine below_drewN ?_ _ | refine Below.alloc ?_ (by first | exact Nat.le_refl _ | omega | (simp; done) | (simp; omega)) _))); (case hy => (refine Hb.out.bbelow ?_; repeat' (first | exact Below.refl _ _ | assumption | refine Below.drew ?_ | refine below_drewN ?_ _ | refine Below.alloc ?_ (by first | exact Nat.le_refl _ | omega | (simp; done) | (simp; omega)) _))); rintro e w2 ⟨rfl, rfl⟩)
      | (go_at_call_of 93 C; (with_reducible refine (before_ok _ C B' xv yk c b' ?hx ?hy).mono ?_); (case hx => (refine Hc.out.bbelow ?_; repeat' (first | exact Below.refl _ _ | assumption | refine Below.drew ?_ | refine below_drewN ?_ _ | refine Below.alloc ?_ (by first | exact Nat.le_refl _ | omega | (simp; done) | (simp; omega)) _))); (case hy => (refine Hb'.out.bbelow ?_; repeat' (first | exact Below.refl _ _ | assumption | refine Below.drew ?_ | refine below_drewN ?_ _ | refine Below.alloc ?_ (by first | exact Nat.le_refl _ | omega | (simp; done) | (simp; omega)) _))); rintro e w2 ⟨rfl, rfl⟩))
      go_ret
      refine ⟨ret_bool (by simp [touchS, d1]), ?_⟩
      repeat' (first | exact Below.refl _ _ | assumption | refine Below.drew ?_ | refine below_drewN ?_ _ | refine Below.alloc ?_ (by first | exact Nat.le_refl _ | omega | (simp; done) | (simp; omega)) _)
  ·
    go_enter Try.func136, Try.ntmps136
    go_wp2_with (first
      | (go_at_call_of 89 A; (with_reducible refine (refSameBytes_ok _ A A' xn yn a a' ?hx ?hy).mono ?_); (case hx => (refine Ha.out.bbelow ?_; repeat' (first | exact Below.refl _ _ | assumption | refine Below.drew ?_ | refine below_drewN ?_ _ | refine Below.alloc ?_ (by first | exact Nat.le_refl _ | omega | (simp; done) | (simp; omega)) _))); (case hy => (refine Ha'.out.bbelow ?_; repeat' (first | exact Below.refl _ _ | assumption | refine Below.drew ?_ | refine below_drewN ?_ _ | refine Below.alloc ?_ (by first | exact Nat.le_refl _ | omega | (simp; done) | (simp; omega)) _))); rintro e w2 ⟨rfl, rfl⟩)
      | (go_at_call_of 89 B; (with_reducible refine (refSameBytes_ok _ B B' xk yk b b' ?hx ?hy).mono ?_); (case hx => (refine Hb.out.bbelow ?_; repeat' (first | exact Below.refl _ _ | assumption | refine Below.drew ?_ | refine below_drewN ?_ _ | refine Below.alloc ?_ (by first | exact Nat.le_refl _ | omega | (simp; done) | (simp; omega)) _))); (case hy => (refine Hb'.out.bbelow ?_; repeat' (first | exact Below.refl _ _ | assumption | refine Below.drew ?_ | refine below_drewN ?_ _ | refine Below.alloc ?_ (by first | exact Nat.le_refl _ | omega | (simp; done) | (simp; omega)) _))); rintro e w2 ⟨rfl, rfl⟩)
      | (go_at_call_of 93 B; (with_reducible refine (before_ok _ B' B yk xk b' b ?hx ?hy).mono ?_); (case hx => (refine Hb'.out.bbelow ?_; repeat' (first | exact Below.refl _ _ | assumption | refine Below.drew ?_ | refine below_drewN ?_ _ | refine Below.alloc ?_ (by first | exact Nat.le_refl _ | omega | (simp; done) | (simp; omega)) _))); (case hy => (refine Hb.out.bbelow ?_; repeat' (first | exact Below.refl _ _ | assumption | refine Below.drew ?_ | refine below_drewN ?_ _ | refine Below.alloc ?_ (by first | exact Nat.le_refl _ | omega | (simp; done) | (simp; omega)) _))); rintro e w2 ⟨rfl, rfl⟩)
      | (go_at_call_of 93 C; (with_reducible refine (before_ok _ C B' xv yk c b' ?hx ?hy).mono ?_); (case hx => (refine Hc.out.bbelow ?_; repeat' (first | exact Below.refl _ _ | assumption | refine Below.drew ?_ | refine below_drewN ?_ _ | refine Below.alloc ?_ (by first | exact Nat.le_refl _ | omega | (simp; done) | (simp; omega)) _))); (case hy => (refine Hb'.out.bbelow ?_; repeat' (first | exact Below.refl _ _ | assumption | refine Below.drew ?_ | refine below_drewN ?_ _ | refine Below.alloc ?_ (by first | exact Nat.le_refl _ | omega | (simp; done) | (simp; omega)) _))); rintro e w2 ⟨rfl, rfl⟩))
    go_ret
    refine ⟨ret_bool (by simp [touchS, d1]), ?_⟩
    repeat' (first | exact Below.refl _ _ | assumption | refine Below.drew ?_ | refine below_drewN ?_ _ | refine Below.alloc ?_ (by first | exact Nat.le_refl _ | omega | (simp; done) | (simp; omega)) _)
set_option maxRecDepth 100000 in
set_option maxHeartbeats 1000000 in
theorem txnWriteOne_ok (w : World) (A B C : Option Addr) (x : Wr) (a b c : Nat) (ha : Bs All w A x.name) (hb : Bs All w B x.key) (hc : Bs All w C x.value) (h1 : x.name.length ≤ big) (h2 : x.key.length ≤ big) (h3 : x.value.length ≤ big) :
    Calls Try.prog 126 #[.agg #[.slice A x.name.length a, .slice B x.key.length b, .bool x.flag, .slice C x.value.length c]] w (RetV w (.int .i64 (writeFaultS x))) := by
  have Ha := Lib.hid ha
  have Hb := Lib.hid hb
  have Hc := Lib.hid hc
  have Hone := Lib.hid (appliedS_one x)
  clear ha hb hc
  go_enter Try.func126, Try.ntmps126
  go_wp2_with (go_at_call 44; refine (forestApply_ok _ none [] 0 _ [x] 1 SL.nil ?hws).mono ?_; (case hws => exact one_wr (w := w) (w.heap.size + 1) (by have := box_new (w.alloc (.cells #[.slice A x.name.length a, .slice B x.key.length b, .bool x.flag, .slice C x.value.length c] 94)) #[.slice A x.name.length a, .slice B x.key.length b, .bool x.flag, .slice C x.value.length c] 94; simpa using this) (((Below.refl _ _).alloc (Nat.le_refl _) _).alloc (by simp) _) Ha.out Hb.out Hc.out h1 h2 h3); rintro e w1 ⟨A5, c5, rfl, _, _, hbw1⟩; rw [Hone.out])
  go_ret
  exact ⟨rfl, (((Below.refl w.heap.size w).alloc (Nat.le_refl _) _).alloc (by simp) _).next hbw1 (by simp; omega)⟩

set_option maxRecDepth 100000 in
set_option maxHeartbeats 1000000 in
theorem chk1_ok (w : World) (g : Nat) (A B C A' B' C' : Option Addr) (x y : Wr) (a b c a' b' c' : Nat) (ha : Bs All w A x.name) (hb : Bs All w B x.key) (hc : Bs All w C x.value) (ha' : Bs All w A' y.name) (hb' : Bs All w B' y.key) (hc' : Bs All w C' y.value) (hg : w.heap[g]? = some (.cells #[.slice A' y.name.length a', .slice B' y.key.length b', .bool y.flag, .slice C' y.value.length c'] 88 (0, 0))) :
    Calls Try.prog 124 #[.agg #[.slice A x.name.length a, .slice B x.key.length b, .bool x.flag, .slice C x.value.length c], .pointer (some ⟨g, 0, none⟩)] w (RetV w (.bool (sameRd x y))) := by
  have Ha := Lib.hid ha
  have Hb := Lib.hid hb
  have Hc := Lib.hid hc
  have Ha' := Lib.hid ha'
  have Hb' := Lib.hid hb'
  have Hc' := Lib.hid hc'
  clear ha hb hc ha' hb' hc'
  obtain ⟨q0, q1, q2, q3, _⟩ := box4 hg
  have hlt : g < w.heap.size := (Array.getElem?_eq_some_iff.1 hg).1
  clear hg
  go_enter Try.func124, Try.ntmps124
  go_wp2_with (go_at_call 125; refine (progSameRead_ok _ A B C A' B' C' x y a b c a' b' c' (Ha.out.bbelow ?_) (Hb.out.bbelow ?_) (Hc.out.bbelow ?_) (Ha'.out.bbelow ?_) (Hb'.out.bbelow ?_) (Hc'.out.bbelow ?_)).mono ?_; (repeat' (first | exact Below.refl _ _ | assumption | refine Below.drew ?_ | refine below_drewN ?_ _ | refine Below.alloc ?_ (by first | exact Nat.le_refl _ | omega | (simp; done) | (simp; omega)) _)); (repeat' (first | exact Below.refl _ _ | assumption | refine Below.drew ?_ | refine below_drewN ?_ _ | refine Below.alloc ?_ (by first | exact Nat.le_refl _ | omega | (simp; done) | (simp; omega)) _)); (repeat' (first | exact Below.refl _ _ | assumption | refine Below.drew ?_ | refine below_drewN ?_ _ | refine Below.alloc ?_ (by first | exact Nat.le_refl _ | omega | (simp; done) | (simp; omega)) _)); (repeat' (first | exact Below.refl _ _ | assumption | refine Below.drew ?_ | refine below_drewN ?_ _ | refine Below.alloc ?_ (by first | exact Nat.le_refl _ | omega | (simp; done) | (simp; omega)) _)); (repeat' (first | exact Below.refl _ _ | assumption | refine Below.drew ?_ | refine below_drewN ?_ _ | refine Below.alloc ?_ (by first | exact Nat.le_refl _ | omega | (simp; done) | (simp; omega)) _)); (repeat' (first | exact Below.refl _ _ | assumption | refine Below.drew ?_ | refine below_drewN ?_ _ | refine Below.alloc ?_ (by first | exact Nat.le_refl _ | omega | (simp; done) | (simp; omega)) _)); rintro e w1 ⟨rfl, hb1⟩)
  go_ret
  exact ⟨rfl, ((Below.refl w.heap.size w).alloc (Nat.le_refl _) _).next hb1 (by simp)⟩
set_option maxRecDepth 100000 in
set_option maxHeartbeats 1000000 in
theorem chk1_idx (w : World) (L : Option Addr) (l : List Wr) (n : Nat) (g : Nat) (A' B' C' : Option Addr) (y : Wr) (a' b' c' : Nat) (hl : Ws All w L l) (hn : l.length ≤ big) (ha' : Bs All w A' y.name) (hb' : Bs All w B' y.key) (hc' : Bs All w C' y.value) (hg : w.heap[g]? = some (.cells #[.slice A' y.name.length a', .slice B' y.key.length b', .bool y.flag, .slice C' y.value.length c'] 88 (0, 0))) :
    Calls Try.prog 157 #[.slice L l.length n, .func (.func 124) #[] #[.pointer (some ⟨g, 0, none⟩)]] w (RetV w (.int .i64 (idxS (fun x => sameRd x y) l))) := by
  unfold big at hn
  have Hl := Lib.hid hl
  have Ha' := Lib.hid ha'
  have Hb' := Lib.hid hb'
  have Hc' := Lib.hid hc'
  have Hg := Lib.hid hg
  have hgl : g < w.heap.size := (Array.getElem?_eq_some_iff.1 hg).1
  clear hl ha' hb' hc' hg
  go_enter Try.func157, Try.ntmps157
  go_wp2
  go_loopw [8] (fun i wr => ∃ k : Nat, k ≤ l.length ∧ i = .int .i64 k ∧ (l.take k).any (fun x => sameRd x y) = false ∧ Below w.heap.size w wr) (fun i _ => l.length - (intOf i).toNat)
  case atStart => exact ⟨0, by omega, rfl, rfl, Below.refl _ _⟩
  case round =>
    obtain ⟨k, hk, rfl, hno, hbel⟩ := hrel
    have Hbel := Lib.hid hbel
    have hbz := hbel.size
    have Hno := Lib.hid hno
    clear hbel hno
    by_cases hlt : k < l.length
    · obtain ⟨g2, off, A, a, B, b, C, c, rfl, _, hal, hc1, hc2, hc3, hc4, hs1, hs2, hs3, _, _, _⟩ := wrs_at (Hl.out.below wrR_stays Hbel.out) hlt
      have Hhere := Lib.hid (fun h => idx_here (q := fun x => sameRd x y) hlt Hno.out h)
      have Hnext := Lib.hid (fun h => any_next (q := fun x => sameRd x y) hlt Hno.out h)
      generalize l[k] = x at *
      have Hs1 := Lib.hid hs1.bz
      have Hs2 := Lib.hid hs2.bz
      have Hs3 := Lib.hid hs3.bz
      clear hs1 hs2 hs3
      rcases Bool.eq_false_or_eq_true (sameRd x y) with hq | hq
      · have Hh := Lib.hid (Hhere.out hq)
        have Hq := Lib.hid hq
        clear Hhere Hnext hq
        go_wp2_with (go_at_call 124; refine (chk1_ok _ g A B C A' B' C' x y a b c a' b' c' Hs1.out Hs2.out Hs3.out (Ha'.out.bbelow Hbel.out) (Hb'.out.bbelow Hbel.out) (Hc'.out.bbelow Hbel.out) ((Hbel.out.block _ hgl).trans Hg.out)).mono ?_; rintro e w1 ⟨rfl, hb1⟩; rw [Hq.out])
        go_ret
        exact ⟨ret_int (by rw [Hh.out]), Hbel.out.next hb1 hbz⟩
      · have Hh := Lib.hid (Hnext.out hq)
        have Hq := Lib.hid hq
        clear Hhere Hnext hq
        go_wp2_with (go_at_call 124; refine (chk1_ok _ g A B C A' B' C' x y a b c a' b' c' Hs1.out Hs2.out Hs3.out (Ha'.out.bbelow Hbel.out) (Hb'.out.bbelow Hbel.out) (Hc'.out.bbelow Hbel.out) ((Hbel.out.block _ hgl).trans Hg.out)).mono ?_; rintro e w1 ⟨rfl, hb1⟩; rw [Hq.out])
        go_roundw
        case rel => exact ⟨k + 1, by omega, by go_num, Hh.out, Hbel.out.next hb1 hbz⟩
        case measure => simp [intOf]; omega
    · obtain rfl : k = l.length := by omega
      have hf := Hno.out
      rw [List.take_length] at hf
      have Hf := Lib.hid (idx_none hf)
      clear hf Hno
      go_wp2
      go_ret
      exact ⟨ret_int (by rw [Hf.out]), Hbel.out⟩
set_option maxRecDepth 100000 in
set_option maxHeartbeats 1000000 in
theorem chk1_has (w : World) (L : Option Addr) (l : List Wr) (n : Nat) (g : Nat) (A' B' C' : Option Addr) (y : Wr) (a' b' c' : Nat) (hl : Ws All w L l) (hn : l.length ≤ big) (ha' : Bs All w A' y.name) (hb' : Bs All w B' y.key) (hc' : Bs All w C' y.value) (hg : w.heap[g]? = some (.cells #[.slice A' y.name.length a', .slice B' y.key.length b', .bool y.flag, .slice C' y.value.length c'] 88 (0, 0))) :
    Calls Try.prog 123 #[.slice L l.length n, .func (.func 124) #[] #[.pointer (some ⟨g, 0, none⟩)]] w (RetV w (.bool (l.any (fun x => sameRd x y)))) := by
  have Hi := Lib.hid (chk1_idx w L l n g A' B' C' y a' b' c' hl hn ha' hb' hc' hg)
  have Hany := Lib.hid (idx_any (fun x => sameRd x y) l)
  clear hl ha' hb' hc' hg
  go_enter Try.func123, Try.ntmps123
  go_wp2_with (go_at_call 157; refine Hi.out.mono ?_; rintro e w1 ⟨rfl, hb1⟩)
  go_ret
  exact ⟨ret_bool (by rw [← Hany.out]), hb1⟩
set_option maxRecDepth 100000 in
set_option maxHeartbeats 1000000 in
theorem chk2_ok (w : World) (g : Nat) (A B C A' B' C' : Option Addr) (x y : Wr) (a b c a' b' c' : Nat) (ha : Bs All w A x.name) (hb : Bs All w B x.key) (hc : Bs All w C x.value) (ha' : Bs All w A' y.name) (hb' : Bs All w B' y.key) (hc' : Bs All w C' y.value) (hg : w.heap[g]? = some (.cells #[.slice A' y.name.length a', .slice B' y.key.length b', .bool y.flag, .slice C' y.value.length c'] 94 (0, 0))) :
    Calls Try.prog 128 #[.agg #[.slice A x.name.length a, .slice B x.key.length b, .bool x.flag, .slice C x.value.length c], .pointer (some ⟨g, 0, none⟩)] w (RetV w (.bool (samePl x y))) := by
  have Ha := Lib.hid ha
  have Hb := Lib.hid hb
  have Hc := Lib.hid hc
  have Ha' := Lib.hid ha'
  have Hb' := Lib.hid hb'
  have Hc' := Lib.hid hc'
  clear ha hb hc ha' hb' hc'
  obtain ⟨q0, q1, q2, q3, _⟩ := box4 hg
  have hlt : g < w.heap.size := (Array.getElem?_eq_some_iff.1 hg).1
  clear hg
  go_enter Try.func128, Try.ntmps128
  go_wp2_with (go_at_call 129; refine (progSamePlace_ok _ A B C A' B' C' x y a b c a' b' c' (Ha.out.bbelow ?_) (Hb.out.bbelow ?_) (Hc.out.bbelow ?_) (Ha'.out.bbelow ?_) (Hb'.out.bbelow ?_) (Hc'.out.bbelow ?_)).mono ?_; (repeat' (first | exact Below.refl _ _ | assumption | refine Below.drew ?_ | refine below_drewN ?_ _ | refine Below.alloc ?_ (by first | exact Nat.le_refl _ | omega | (simp; done) | (simp; omega)) _)); (repeat' (first | exact Below.refl _ _ | assumption | refine Below.drew ?_ | refine below_drewN ?_ _ | refine Below.alloc ?_ (by first | exact Nat.le_refl _ | omega | (simp; done) | (simp; omega)) _)); (repeat' (first | exact Below.refl _ _ | assumption | refine Below.drew ?_ | refine below_drewN ?_ _ | refine Below.alloc ?_ (by first | exact Nat.le_refl _ | omega | (simp; done) | (simp; omega)) _)); (repeat' (first | exact Below.refl _ _ | assumption | refine Below.drew ?_ | refine below_drewN ?_ _ | refine Below.alloc ?_ (by first | exact Nat.le_refl _ | omega | (simp; done) | (simp; omega)) _)); (repeat' (first | exact Below.refl _ _ | assumption | refine Below.drew ?_ | refine below_drewN ?_ _ | refine Below.alloc ?_ (by first | exact Nat.le_refl _ | omega | (simp; done) | (simp; omega)) _)); (repeat' (first | exact Below.refl _ _ | assumption | refine Below.drew ?_ | refine below_drewN ?_ _ | refine Below.alloc ?_ (by first | exact Nat.le_refl _ | omega | (simp; done) | (simp; omega)) _)); rintro e w1 ⟨rfl, hb1⟩)
  go_ret
  exact ⟨rfl, ((Below.refl w.heap.size w).alloc (Nat.le_refl _) _).next hb1 (by simp)⟩
set_option maxRecDepth 100000 in
set_option maxHeartbeats 1000000 in
theorem chk2_idx (w : World) (L : Option Addr) (l : List Wr) (n : Nat) (g : Nat) (A' B' C' : Option Addr) (y : Wr) (a' b' c' : Nat) (hl : Ws All w L l) (hn : l.length ≤ big) (ha' : Bs All w A' y.name) (hb' : Bs All w B' y.key) (hc' : Bs All w C' y.value) (hg : w.heap[g]? = some (.cells #[.slice A' y.name.length a', .slice B' y.key.length b', .bool y.flag, .slice C' y.value.length c'] 94 (0, 0))) :
    Calls Try.prog 141 #[.slice L l.length n, .func (.func 128) #[] #[.pointer (some ⟨g, 0, none⟩)]] w (RetV w (.int .i64 (idxS (fun x => samePl x y) l))) := by
  unfold big at hn
  have Hl := Lib.hid hl
  have Ha' := Lib.hid ha'
  have Hb' := Lib.hid hb'
  have Hc' := Lib.hid hc'
  have Hg := Lib.hid hg
  have hgl : g < w.heap.size := (Array.getElem?_eq_some_iff.1 hg).1
  clear hl ha' hb' hc' hg
  go_enter Try.func141, Try.ntmps141
  go_wp2
  go_loopw [8] (fun i wr => ∃ k : Nat, k ≤ l.length ∧ i = .int .i64 k ∧ (l.take k).any (fun x => samePl x y) = false ∧ Below w.heap.size w wr) (fun i _ => l.length - (intOf i).toNat)
  case atStart => exact ⟨0, by omega, rfl, rfl, Below.refl _ _⟩
  case round =>
    obtain ⟨k, hk, rfl, hno, hbel⟩ := hrel
    have Hbel := Lib.hid hbel
    have hbz := hbel.size
    have Hno := Lib.hid hno
    clear hbel hno
    by_cases hlt : k < l.length
    · obtain ⟨g2, off, A, a, B, b, C, c, rfl, _, hal, hc1, hc2, hc3, hc4, hs1, hs2, hs3, _, _, _⟩ := wrs_at (Hl.out.below wrR_stays Hbel.out) hlt
      have Hhere := Lib.hid (fun h => idx_here (q := fun x => samePl x y) hlt Hno.out h)
      have Hnext := Lib.hid (fun h => any_next (q := fun x => samePl x y) hlt Hno.out h)
      generalize l[k] = x at *
      have Hs1 := Lib.hid hs1.bz
      have Hs2 := Lib.hid hs2.bz
      have Hs3 := Lib.hid hs3.bz
      clear hs1 hs2 hs3
      rcases Bool.eq_false_or_eq_true (samePl x y) with hq | hq
      · have Hh := Lib.hid (Hhere.out hq)
        have Hq := Lib.hid hq
        clear Hhere Hnext hq
        go_wp2_with (go_at_call 128; refine (chk2_ok _ g A B C A' B' C' x y a b c a' b' c' Hs1.out Hs2.out Hs3.out (Ha'.out.bbelow Hbel.out) (Hb'.out.bbelow Hbel.out) (Hc'.out.bbelow Hbel.out) ((Hbel.out.block _ hgl).trans Hg.out)).mono ?_; rintro e w1 ⟨rfl, hb1⟩; rw [Hq.out])
        go_ret
        exact ⟨ret_int (by rw [Hh.out]), Hbel.out.next hb1 hbz⟩
      · have Hh := Lib.hid (Hnext.out hq)
        have Hq := Lib.hid hq
        clear Hhere Hnext hq
        go_wp2_with (go_at_call 128; refine (chk2_ok _ g A B C A' B' C' x y a b c a' b' c' Hs1.out Hs2.out Hs3.out (Ha'.out.bbelow Hbel.out) (Hb'.out.bbelow Hbel.out) (Hc'.out.bbelow Hbel.out) ((Hbel.out.block _ hgl).trans Hg.out)).mono ?_; rintro e w1 ⟨rfl, hb1⟩; rw [Hq.out])
        go_roundw
        case rel => exact ⟨k + 1, by omega, by go_num, Hh.out, Hbel.out.next hb1 hbz⟩
        case measure => simp [intOf]; omega
    · obtain rfl : k = l.length := by omega
      have hf := Hno.out
      rw [List.take_length] at hf
      have Hf := Lib.hid (idx_none hf)
      clear hf Hno
      go_wp2
      go_ret
      exact ⟨ret_int (by rw [Hf.out]), Hbel.out⟩
set_option maxRecDepth 100000 in
set_option maxHeartbeats 1000000 in
theorem chk2_has (w : World) (L : Option Addr) (l : List Wr) (n : Nat) (g : Nat) (A' B' C' : Option Addr) (y : Wr) (a' b' c' : Nat) (hl : Ws All w L l) (hn : l.length ≤ big) (ha' : Bs All w A' y.name) (hb' : Bs All w B' y.key) (hc' : Bs All w C' y.value) (hg : w.heap[g]? = some (.cells #[.slice A' y.name.length a', .slice B' y.key.length b', .bool y.flag, .slice C' y.value.length c'] 94 (0, 0))) :
    Calls Try.prog 127 #[.slice L l.length n, .func (.func 128) #[] #[.pointer (some ⟨g, 0, none⟩)]] w (RetV w (.bool (l.any (fun x => samePl x y)))) := by
  have Hi := Lib.hid (chk2_idx w L l n g A' B' C' y a' b' c' hl hn ha' hb' hc' hg)
  have Hany := Lib.hid (idx_any (fun x => samePl x y) l)
  clear hl ha' hb' hc' hg
  go_enter Try.func127, Try.ntmps127
  go_wp2_with (go_at_call 141; refine Hi.out.mono ?_; rintro e w1 ⟨rfl, hb1⟩)
  go_ret
  exact ⟨ret_bool (by rw [← Hany.out]), hb1⟩
set_option maxRecDepth 100000 in
set_option maxHeartbeats 1000000 in
theorem not1_ok (w : World) (g : Nat) (A B C A' B' C' : Option Addr) (x y : Wr) (a b c a' b' c' : Nat) (ha : Bs All w A x.name) (hb : Bs All w B x.key) (hc : Bs All w C x.value) (ha' : Bs All w A' y.name) (hb' : Bs All w B' y.key) (hc' : Bs All w C' y.value) (hg : w.heap[g]? = some (.cells #[.slice A' y.name.length a', .slice B' y.key.length b', .bool y.flag, .slice C' y.value.length c'] 88 (0, 0))) :
    Calls Try.prog 138 #[.agg #[.slice A x.name.length a, .slice B x.key.length b, .bool x.flag, .slice C x.value.length c], .pointer (some ⟨g, 0, none⟩)] w (RetV w (.bool (sameRd x y))) := by
  have Ha := Lib.hid ha
  have Hb := Lib.hid hb
  have Hc := Lib.hid hc
  have Ha' := Lib.hid ha'
  have Hb' := Lib.hid hb'
  have Hc' := Lib.hid hc'
  clear ha hb hc ha' hb' hc'
  obtain ⟨q0, q1, q2, q3, _⟩ := box4 hg
  have hlt : g < w.heap.size := (Array.getElem?_eq_some_iff.1 hg).1
  clear hg
  go_enter Try.func138, Try.ntmps138
  go_wp2_with (go_at_call 125; refine (progSameRead_ok _ A B C A' B' C' x y a b c a' b' c' (Ha.out.bbelow ?_) (Hb.out.bbelow ?_) (Hc.out.bbelow ?_) (Ha'.out.bbelow ?_) (Hb'.out.bbelow ?_) (Hc'.out.bbelow ?_)).mono ?_; (repeat' (first | exact Below.refl _ _ | assumption | refine Below.drew ?_ | refine below_drewN ?_ _ | refine Below.alloc ?_ (by first | exact Nat.le_refl _ | omega | (simp; done) | (simp; omega)) _)); (repeat' (first | exact Below.refl _ _ | assumption | refine Below.drew ?_ | refine below_drewN ?_ _ | refine Below.alloc ?_ (by first | exact Nat.le_refl _ | omega | (simp; done) | (simp; omega)) _)); (repeat' (first | exact Below.refl _ _ | assumption | refine Below.drew ?_ | refine below_drewN ?_ _ | refine Below.alloc ?_ (by first | exact Nat.le_refl _ | omega | (simp; done) | (simp; omega)) _)); (repeat' (first | exact Below.refl _ _ | assumption | refine Below.drew ?_ | refine below_drewN ?_ _ | refine Below.alloc ?_ (by first | exact Nat.le_refl _ | omega | (simp; done) | (simp; omega)) _)); (repeat' (first | exact Below.refl _ _ | assumption | refine Below.drew ?_ | refine below_drewN ?_ _ | refine Below.alloc ?_ (by first | exact Nat.le_refl _ | omega | (simp; done) | (simp; omega)) _)); (repeat' (first | exact Below.refl _ _ | assumption | refine Below.drew ?_ | refine below_drewN ?_ _ | refine Below.alloc ?_ (by first | exact Nat.le_refl _ | omega | (simp; done) | (simp; omega)) _)); rintro e w1 ⟨rfl, hb1⟩)
  go_ret
  exact ⟨rfl, ((Below.refl w.heap.size w).alloc (Nat.le_refl _) _).next hb1 (by simp)⟩
set_option maxRecDepth 100000 in
set_option maxHeartbeats 1000000 in
theorem not1_idx (w : World) (L : Option Addr) (l : List Wr) (n : Nat) (g : Nat) (A' B' C' : Option Addr) (y : Wr) (a' b' c' : Nat) (hl : Ws All w L l) (hn : l.length ≤ big) (ha' : Bs All w A' y.name) (hb' : Bs All w B' y.key) (hc' : Bs All w C' y.value) (hg : w.heap[g]? = some (.cells #[.slice A' y.name.length a', .slice B' y.key.length b', .bool y.flag, .slice C' y.value.length c'] 88 (0, 0))) :
    Calls Try.prog 157 #[.slice L l.length n, .func (.func 138) #[] #[.pointer (some ⟨g, 0, none⟩)]] w (RetV w (.int .i64 (idxS (fun x => sameRd x y) l))) := by
  unfold big at hn
  have Hl := Lib.hid hl
  have Ha' := Lib.hid ha'
  have Hb' := Lib.hid hb'
  have Hc' := Lib.hid hc'
  have Hg := Lib.hid hg
  have hgl : g < w.heap.size := (Array.getElem?_eq_some_iff.1 hg).1
  clear hl ha' hb' hc' hg
  go_enter Try.func157, Try.ntmps157
  go_wp2
  go_loopw [8] (fun i wr => ∃ k : Nat, k ≤ l.length ∧ i = .int .i64 k ∧ (l.take k).any (fun x => sameRd x y) = false ∧ Below w.heap.size w wr) (fun i _ => l.length - (intOf i).toNat)
  case atStart => exact ⟨0, by omega, rfl, rfl, Below.refl _ _⟩
  case round =>
    obtain ⟨k, hk, rfl, hno, hbel⟩ := hrel
    have Hbel := Lib.hid hbel
    have hbz := hbel.size
    have Hno := Lib.hid hno
    clear hbel hno
    by_cases hlt : k < l.length
    · obtain ⟨g2, off, A, a, B, b, C, c, rfl, _, hal, hc1, hc2, hc3, hc4, hs1, hs2, hs3, _, _, _⟩ := wrs_at (Hl.out.below wrR_stays Hbel.out) hlt
      have Hhere := Lib.hid (fun h => idx_here (q := fun x => sameRd x y) hlt Hno.out h)
      have Hnext := Lib.hid (fun h => any_next (q := fun x => sameRd x y) hlt Hno.out h)
      generalize l[k] = x at *
      have Hs1 := Lib.hid hs1.bz
      have Hs2 := Lib.hid hs2.bz
      have Hs3 := Lib.hid hs3.bz
      clear hs1 hs2 hs3
      rcases Bool.eq_false_or_eq_true (sameRd x y) with hq | hq
      · have Hh := Lib.hid (Hhere.out hq)
        have Hq := Lib.hid hq
        clear Hhere Hnext hq
        go_wp2_with (go_at_call 138; refine (not1_ok _ g A B C A' B' C' x y a b c a' b' c' Hs1.out Hs2.out Hs3.out (Ha'.out.bbelow Hbel.out) (Hb'.out.bbelow Hbel.out) (Hc'.out.bbelow Hbel.out) ((Hbel.out.block _ hgl).trans Hg.out)).mono ?_; rintro e w1 ⟨rfl, hb1⟩; rw [Hq.out])
        go_ret
        exact ⟨ret_int (by rw [Hh.out]), Hbel.out.next hb1 hbz⟩
      · have Hh := Lib.hid (Hnext.out hq)
        have Hq := Lib.hid hq
        clear Hhere Hnext hq
        go_wp2_with (go_at_call 138; refine (not1_ok _ g A B C A' B' C' x y a b c a' b' c' Hs1.out Hs2.out Hs3.out (Ha'.out.bbelow Hbel.out) (Hb'.out.bbelow Hbel.out) (Hc'.out.bbelow Hbel.out) ((Hbel.out.block _ hgl).trans Hg.out)).mono ?_; rintro e w1 ⟨rfl, hb1⟩; rw [Hq.out])
        go_roundw
        case rel => exact ⟨k + 1, by omega, by go_num, Hh.out, Hbel.out.next hb1 hbz⟩
        case measure => simp [intOf]; omega
    · obtain rfl : k = l.length := by omega
      have hf := Hno.out
      rw [List.take_length] at hf
      have Hf := Lib.hid (idx_none hf)
      clear hf Hno
      go_wp2
      go_ret
      exact ⟨ret_int (by rw [Hf.out]), Hbel.out⟩
set_option maxRecDepth 100000 in
set_option maxHeartbeats 1000000 in
theorem not1_has (w : World) (L : Option Addr) (l : List Wr) (n : Nat) (g : Nat) (A' B' C' : Option Addr) (y : Wr) (a' b' c' : Nat) (hl : Ws All w L l) (hn : l.length ≤ big) (ha' : Bs All w A' y.name) (hb' : Bs All w B' y.key) (hc' : Bs All w C' y.value) (hg : w.heap[g]? = some (.cells #[.slice A' y.name.length a', .slice B' y.key.length b', .bool y.flag, .slice C' y.value.length c'] 88 (0, 0))) :
    Calls Try.prog 123 #[.slice L l.length n, .func (.func 138) #[] #[.pointer (some ⟨g, 0, none⟩)]] w (RetV w (.bool (l.any (fun x => sameRd x y)))) := by
  have Hi := Lib.hid (not1_idx w L l n g A' B' C' y a' b' c' hl hn ha' hb' hc' hg)
  have Hany := Lib.hid (idx_any (fun x => sameRd x y) l)
  clear hl ha' hb' hc' hg
  go_enter Try.func123, Try.ntmps123
  go_wp2_with (go_at_call 157; refine Hi.out.mono ?_; rintro e w1 ⟨rfl, hb1⟩)
  go_ret
  exact ⟨ret_bool (by rw [← Hany.out]), hb1⟩
set_option maxRecDepth 100000 in
set_option maxHeartbeats 1000000 in
theorem wri1_ok (w : World) (g : Nat) (A B C A' B' C' : Option Addr) (x y : Wr) (a b c a' b' c' : Nat) (ha : Bs All w A x.name) (hb : Bs All w B x.key) (hc : Bs All w C x.value) (ha' : Bs All w A' y.name) (hb' : Bs All w B' y.key) (hc' : Bs All w C' y.value) (hg : w.heap[g]? = some (.cells #[.slice A' y.name.length a', .slice B' y.key.length b', .bool y.flag, .slice C' y.value.length c'] 94 (0, 0))) :
    Calls Try.prog 142 #[.agg #[.slice A x.name.length a, .slice B x.key.length b, .bool x.flag, .slice C x.value.length c], .pointer (some ⟨g, 0, none⟩)] w (RetV w (.bool (samePl x y))) := by
  have Ha := Lib.hid ha
  have Hb := Lib.hid hb
  have Hc := Lib.hid hc
  have Ha' := Lib.hid ha'
  have Hb' := Lib.hid hb'
  have Hc' := Lib.hid hc'
  clear ha hb hc ha' hb' hc'
  obtain ⟨q0, q1, q2, q3, _⟩ := box4 hg
  have hlt : g < w.heap.size := (Array.getElem?_eq_some_iff.1 hg).1
  clear hg
  go_enter Try.func142, Try.ntmps142
  go_wp2_with (go_at_call 129; refine (progSamePlace_ok _ A B C A' B' C' x y a b c a' b' c' (Ha.out.bbelow ?_) (Hb.out.bbelow ?_) (Hc.out.bbelow ?_) (Ha'.out.bbelow ?_) (Hb'.out.bbelow ?_) (Hc'.out.bbelow ?_)).mono ?_; (repeat' (first | exact Below.refl _ _ | assumption | refine Below.drew ?_ | refine below_drewN ?_ _ | refine Below.alloc ?_ (by first | exact Nat.le_refl _ | omega | (simp; done) | (simp; omega)) _)); (repeat' (first | exact Below.refl _ _ | assumption | refine Below.drew ?_ | refine below_drewN ?_ _ | refine Below.alloc ?_ (by first | exact Nat.le_refl _ | omega | (simp; done) | (simp; omega)) _)); (repeat' (first | exact Below.refl _ _ | assumption | refine Below.drew ?_ | refine below_drewN ?_ _ | refine Below.alloc ?_ (by first | exact Nat.le_refl _ | omega | (simp; done) | (simp; omega)) _)); (repeat' (first | exact Below.refl _ _ | assumption | refine Below.drew ?_ | refine below_drewN ?_ _ | refine Below.alloc ?_ (by first | exact Nat.le_refl _ | omega | (simp; done) | (simp; omega)) _)); (repeat' (first | exact Below.refl _ _ | assumption | refine Below.drew ?_ | refine below_drewN ?_ _ | refine Below.alloc ?_ (by first | exact Nat.le_refl _ | omega | (simp; done) | (simp; omega)) _)); (repeat' (first | exact Below.refl _ _ | assumption | refine Below.drew ?_ | refine below_drewN ?_ _ | refine Below.alloc ?_ (by first | exact Nat.le_refl _ | omega | (simp; done) | (simp; omega)) _)); rintro e w1 ⟨rfl, hb1⟩)
  go_ret
  exact ⟨rfl, ((Below.refl w.heap.size w).alloc (Nat.le_refl _) _).next hb1 (by simp)⟩
set_option maxRecDepth 100000 in
set_option maxHeartbeats 1000000 in
theorem wri1_idx (w : World) (L : Option Addr) (l : List Wr) (n : Nat) (g : Nat) (A' B' C' : Option Addr) (y : Wr) (a' b' c' : Nat) (hl : Ws All w L l) (hn : l.length ≤ big) (ha' : Bs All w A' y.name) (hb' : Bs All w B' y.key) (hc' : Bs All w C' y.value) (hg : w.heap[g]? = some (.cells #[.slice A' y.name.length a', .slice B' y.key.length b', .bool y.flag, .slice C' y.value.length c'] 94 (0, 0))) :
    Calls Try.prog 141 #[.slice L l.length n, .func (.func 142) #[] #[.pointer (some ⟨g, 0, none⟩)]] w (RetV w (.int .i64 (idxS (fun x => samePl x y) l))) := by
  unfold big at hn
  have Hl := Lib.hid hl
  have Ha' := Lib.hid ha'
  have Hb' := Lib.hid hb'
  have Hc' := Lib.hid hc'
  have Hg := Lib.hid hg
  have hgl : g < w.heap.size := (Array.getElem?_eq_some_iff.1 hg).1
  clear hl ha' hb' hc' hg
  go_enter Try.func141, Try.ntmps141
  go_wp2
  go_loopw [8] (fun i wr => ∃ k : Nat, k ≤ l.length ∧ i = .int .i64 k ∧ (l.take k).any (fun x => samePl x y) = false ∧ Below w.heap.size w wr) (fun i _ => l.length - (intOf i).toNat)
  case atStart => exact ⟨0, by omega, rfl, rfl, Below.refl _ _⟩
  case round =>
    obtain ⟨k, hk, rfl, hno, hbel⟩ := hrel
    have Hbel := Lib.hid hbel
    have hbz := hbel.size
    have Hno := Lib.hid hno
    clear hbel hno
    by_cases hlt : k < l.length
    · obtain ⟨g2, off, A, a, B, b, C, c, rfl, _, hal, hc1, hc2, hc3, hc4, hs1, hs2, hs3, _, _, _⟩ := wrs_at (Hl.out.below wrR_stays Hbel.out) hlt
      have Hhere := Lib.hid (fun h => idx_here (q := fun x => samePl x y) hlt Hno.out h)
      have Hnext := Lib.hid (fun h => any_next (q := fun x => samePl x y) hlt Hno.out h)
      generalize l[k] = x at *
      have Hs1 := Lib.hid hs1.bz
      have Hs2 := Lib.hid hs2.bz
      have Hs3 := Lib.hid hs3.bz
      clear hs1 hs2 hs3
      rcases Bool.eq_false_or_eq_true (samePl x y) with hq | hq
      · have Hh := Lib.hid (Hhere.out hq)
        have Hq := Lib.hid hq
        clear Hhere Hnext hq
        go_wp2_with (go_at_call 142; refine (wri1_ok _ g A B C A' B' C' x y a b c a' b' c' Hs1.out Hs2.out Hs3.out (Ha'.out.bbelow Hbel.out) (Hb'.out.bbelow Hbel.out) (Hc'.out.bbelow Hbel.out) ((Hbel.out.block _ hgl).trans Hg.out)).mono ?_; rintro e w1 ⟨rfl, hb1⟩; rw [Hq.out])
        go_ret
        exact ⟨ret_int (by rw [Hh.out]), Hbel.out.next hb1 hbz⟩
      · have Hh := Lib.hid (Hnext.out hq)
        have Hq := Lib.hid hq
        clear Hhere Hnext hq
        go_wp2_with (go_at_call 142; refine (wri1_ok _ g A B C A' B' C' x y a b c a' b' c' Hs1.out Hs2.out Hs3.out (Ha'.out.bbelow Hbel.out) (Hb'.out.bbelow Hbel.out) (Hc'.out.bbelow Hbel.out) ((Hbel.out.block _ hgl).trans Hg.out)).mono ?_; rintro e w1 ⟨rfl, hb1⟩; rw [Hq.out])
        go_roundw
        case rel => exact ⟨k + 1, by omega, by go_num, Hh.out, Hbel.out.next hb1 hbz⟩
        case measure => simp [intOf]; omega
    · obtain rfl : k = l.length := by omega
      have hf := Hno.out
      rw [List.take_length] at hf
      have Hf := Lib.hid (idx_none hf)
      clear hf Hno
      go_wp2
      go_ret
      exact ⟨ret_int (by rw [Hf.out]), Hbel.out⟩
set_option maxRecDepth 100000 in
set_option maxHeartbeats 1000000 in
theorem cla1_ok (w : World) (g : Nat) (A B C A' B' C' : Option Addr) (x y : Wr) (a b c a' b' c' : Nat) (ha : Bs All w A x.name) (hb : Bs All w B x.key) (hc : Bs All w C x.value) (ha' : Bs All w A' y.name) (hb' : Bs All w B' y.key) (hc' : Bs All w C' y.value) (hg : w.heap[g]? = some (.cells #[.slice A' y.name.length a', .slice B' y.key.length b', .bool y.flag, .slice C' y.value.length c'] 94 (0, 0))) :
    Calls Try.prog 134 #[.agg #[.slice A x.name.length a, .slice B x.key.length b, .bool x.flag, .slice C x.value.length c], .pointer (some ⟨g, 0, none⟩)] w (RetV w (.bool (touchS x y))) := by
  have Ha := Lib.hid ha
  have Hb := Lib.hid hb
  have Hc := Lib.hid hc
  have Ha' := Lib.hid ha'
  have Hb' := Lib.hid hb'
  have Hc' := Lib.hid hc'
  clear ha hb hc ha' hb' hc'
  obtain ⟨q0, q1, q2, q3, _⟩ := box4 hg
  have hlt : g < w.heap.size := (Array.getElem?_eq_some_iff.1 hg).1
  clear hg
  go_enter Try.func134, Try.ntmps134
  go_wp2_with (go_at_call 135; refine (progTouches_ok _ A B C A' B' C' x y a b c a' b' c' (Ha.out.bbelow ?_) (Hb.out.bbelow ?_) (Hc.out.bbelow ?_) (Ha'.out.bbelow ?_) (Hb'.out.bbelow ?_) (Hc'.out.bbelow ?_)).mono ?_; (repeat' (first | exact Below.refl _ _ | assumption | refine Below.drew ?_ | refine below_drewN ?_ _ | refine Below.alloc ?_ (by first | exact Nat.le_refl _ | omega | (simp; done) | (simp; omega)) _)); (repeat' (first | exact Below.refl _ _ | assumption | refine Below.drew ?_ | refine below_drewN ?_ _ | refine Below.alloc ?_ (by first | exact Nat.le_refl _ | omega | (simp; done) | (simp; omega)) _)); (repeat' (first | exact Below.refl _ _ | assumption | refine Below.drew ?_ | refine below_drewN ?_ _ | refine Below.alloc ?_ (by first | exact Nat.le_refl _ | omega | (simp; done) | (simp; omega)) _)); (repeat' (first | exact Below.refl _ _ | assumption | refine Below.drew ?_ | refine below_drewN ?_ _ | refine Below.alloc ?_ (by first | exact Nat.le_refl _ | omega | (simp; done) | (simp; omega)) _)); (repeat' (first | exact Below.refl _ _ | assumption | refine Below.drew ?_ | refine below_drewN ?_ _ | refine Below.alloc ?_ (by first | exact Nat.le_refl _ | omega | (simp; done) | (simp; omega)) _)); (repeat' (first | exact Below.refl _ _ | assumption | refine Below.drew ?_ | refine below_drewN ?_ _ | refine Below.alloc ?_ (by first | exact Nat.le_refl _ | omega | (simp; done) | (simp; omega)) _)); rintro e w1 ⟨rfl, hb1⟩)
  go_ret
  exact ⟨rfl, ((Below.refl w.heap.size w).alloc (Nat.le_refl _) _).next hb1 (by simp)⟩
set_option maxRecDepth 100000 in
set_option maxHeartbeats 1000000 in
theorem cla1_idx (w : World) (L : Option Addr) (l : List Wr) (n : Nat) (g : Nat) (A' B' C' : Option Addr) (y : Wr) (a' b' c' : Nat) (hl : Ws All w L l) (hn : l.length ≤ big) (ha' : Bs All w A' y.name) (hb' : Bs All w B' y.key) (hc' : Bs All w C' y.value) (hg : w.heap[g]? = some (.cells #[.slice A' y.name.length a', .slice B' y.key.length b', .bool y.flag, .slice C' y.value.length c'] 94 (0, 0))) :
    Calls Try.prog 157 #[.slice L l.length n, .func (.func 134) #[] #[.pointer (some ⟨g, 0, none⟩)]] w (RetV w (.int .i64 (idxS (fun x => touchS x y) l))) := by
  unfold big at hn
  have Hl := Lib.hid hl
  have Ha' := Lib.hid ha'
  have Hb' := Lib.hid hb'
  have Hc' := Lib.hid hc'
  have Hg := Lib.hid hg
  have hgl : g < w.heap.size := (Array.getElem?_eq_some_iff.1 hg).1
  clear hl ha' hb' hc' hg
  go_enter Try.func157, Try.ntmps157
  go_wp2
  go_loopw [8] (fun i wr => ∃ k : Nat, k ≤ l.length ∧ i = .int .i64 k ∧ (l.take k).any (fun x => touchS x y) = false ∧ Below w.heap.size w wr) (fun i _ => l.length - (intOf i).toNat)
  case atStart => exact ⟨0, by omega, rfl, rfl, Below.refl _ _⟩
  case round =>
    obtain ⟨k, hk, rfl, hno, hbel⟩ := hrel
    have Hbel := Lib.hid hbel
    have hbz := hbel.size
    have Hno := Lib.hid hno
    clear hbel hno
    by_cases hlt : k < l.length
    · obtain ⟨g2, off, A, a, B, b, C, c, rfl, _, hal, hc1, hc2, hc3, hc4, hs1, hs2, hs3, _, _, _⟩ := wrs_at (Hl.out.below wrR_stays Hbel.out) hlt
      have Hhere := Lib.hid (fun h => idx_here (q := fun x => touchS x y) hlt Hno.out h)
      have Hnext := Lib.hid (fun h => any_next (q := fun x => touchS x y) hlt Hno.out h)
      generalize l[k] = x at *
      have Hs1 := Lib.hid hs1.bz
      have Hs2 := Lib.hid hs2.bz
      have Hs3 := Lib.hid hs3.bz
      clear hs1 hs2 hs3
      rcases Bool.eq_false_or_eq_true (touchS x y) with hq | hq
      · have Hh := Lib.hid (Hhere.out hq)
        have Hq := Lib.hid hq
        clear Hhere Hnext hq
        go_wp2_with (go_at_call 134; refine (cla1_ok _ g A B C A' B' C' x y a b c a' b' c' Hs1.out Hs2.out Hs3.out (Ha'.out.bbelow Hbel.out) (Hb'.out.bbelow Hbel.out) (Hc'.out.bbelow Hbel.out) ((Hbel.out.block _ hgl).trans Hg.out)).mono ?_; rintro e w1 ⟨rfl, hb1⟩; rw [Hq.out])
        go_ret
        exact ⟨ret_int (by rw [Hh.out]), Hbel.out.next hb1 hbz⟩
      · have Hh := Lib.hid (Hnext.out hq)
        have Hq := Lib.hid hq
        clear Hhere Hnext hq
        go_wp2_with (go_at_call 134; refine (cla1_ok _ g A B C A' B' C' x y a b c a' b' c' Hs1.out Hs2.out Hs3.out (Ha'.out.bbelow Hbel.out) (Hb'.out.bbelow Hbel.out) (Hc'.out.bbelow Hbel.out) ((Hbel.out.block _ hgl).trans Hg.out)).mono ?_; rintro e w1 ⟨rfl, hb1⟩; rw [Hq.out])
        go_roundw
        case rel => exact ⟨k + 1, by omega, by go_num, Hh.out, Hbel.out.next hb1 hbz⟩
        case measure => simp [intOf]; omega
    · obtain rfl : k = l.length := by omega
      have hf := Hno.out
      rw [List.take_length] at hf
      have Hf := Lib.hid (idx_none hf)
      clear hf Hno
      go_wp2
      go_ret
      exact ⟨ret_int (by rw [Hf.out]), Hbel.out⟩
set_option maxRecDepth 100000 in
set_option maxHeartbeats 1000000 in
theorem cla1_has (w : World) (L : Option Addr) (l : List Wr) (n : Nat) (g : Nat) (A' B' C' : Option Addr) (y : Wr) (a' b' c' : Nat) (hl : Ws All w L l) (hn : l.length ≤ big) (ha' : Bs All w A' y.name) (hb' : Bs All w B' y.key) (hc' : Bs All w C' y.value) (hg : w.heap[g]? = some (.cells #[.slice A' y.name.length a', .slice B' y.key.length b', .bool y.flag, .slice C' y.value.length c'] 94 (0, 0))) :
    Calls Try.prog 123 #[.slice L l.length n, .func (.func 134) #[] #[.pointer (some ⟨g, 0, none⟩)]] w (RetV w (.bool (l.any (fun x => touchS x y)))) := by
  have Hi := Lib.hid (cla1_idx w L l n g A' B' C' y a' b' c' hl hn ha' hb' hc' hg)
  have Hany := Lib.hid (idx_any (fun x => touchS x y) l)
  clear hl ha' hb' hc' hg
  go_enter Try.func123, Try.ntmps123
  go_wp2_with (go_at_call 157; refine Hi.out.mono ?_; rintro e w1 ⟨rfl, hb1⟩)
  go_ret
  exact ⟨ret_bool (by rw [← Hany.out]), hb1⟩
end Go.Proofs.Ythhcdibimnifaaa
