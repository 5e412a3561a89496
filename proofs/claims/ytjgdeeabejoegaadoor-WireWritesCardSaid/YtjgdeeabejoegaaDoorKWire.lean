/- Wire: Requests: words for memory; what is wrong with one. Walks: RequestFault. Walks: requests copied, and held against each other. Walks: wire.Check. The conditions of each are in its words. -/
import Derived.Test.YtjgdeeabejoegaaDoorKBase
namespace Go.Proofs.YtjgdeeabejoegaaDoor
open Go.RowKit
set_option linter.unusedVariables false
set_option linter.unusedSimpArgs false

structure Rq where
  kind : Int
  name : List UInt8
  key : List UInt8
  last : List UInt8
  value : List UInt8
/-- The five cells of a request. -/
def RqR (S : Nat → Prop) (w : World) (cs : List Value) (r : Rq) : Prop :=
  ∃ A a B b C c D d, cs = [.int .i64 r.kind, .slice A r.name.length a, .slice B r.key.length b, .slice C r.last.length c, .slice D r.value.length d] ∧ Bs S w A r.name ∧ Bs S w B r.key ∧ Bs S w C r.last ∧ Bs S w D r.value ∧ r.name.length ≤ big ∧ r.key.length ≤ big ∧ r.last.length ≤ big ∧ r.value.length ≤ big
theorem box5 {w : World} {g : Nat} {t : TypeId} {a b c d e : Value} (h : w.heap[g]? = some (.cells #[a, b, c, d, e] t (0, 0))) :
    (w.cell? ⟨g, 0, none⟩ = some a ∧ w.cell? ⟨g, 1, none⟩ = some b ∧ w.cell? ⟨g, 2, none⟩ = some c ∧ w.cell? ⟨g, 3, none⟩ = some d ∧ w.cell? ⟨g, 4, none⟩ = some e) ∧ (w.frozen? ⟨g, 0, none⟩ = false ∧ w.frozen? ⟨g, 1, none⟩ = false ∧ w.frozen? ⟨g, 2, none⟩ = false ∧ w.frozen? ⟨g, 3, none⟩ = false ∧ w.frozen? ⟨g, 4, none⟩ = false) :=
  ⟨⟨box_cell (cs := [a, b, c, d, e]) h 0, box_cell (cs := [a, b, c, d, e]) h 1, box_cell (cs := [a, b, c, d, e]) h 2, box_cell (cs := [a, b, c, d, e]) h 3, box_cell (cs := [a, b, c, d, e]) h 4⟩, box_frozen (cs := [a, b, c, d, e]) h 0, box_frozen (cs := [a, b, c, d, e]) h 1, box_frozen (cs := [a, b, c, d, e]) h 2, box_frozen (cs := [a, b, c, d, e]) h 3, box_frozen (cs := [a, b, c, d, e]) h 4⟩
/-- The parts that a kind of request has: bits of the table 'has'. -/
def hasT : List Nat := [0, 0, 3, 7, 11, 3, 0, 0, 3]
def hasS (k : Nat) : Nat := hasT.getD k 0
def named (k : Nat) : Bool := hasS k != 0
/-- What is wrong with what stands in a request of parts h. -/
def partAt (r : Rq) (i : Nat) : List UInt8 := if i = 0 then r.name else if i = 1 then r.key else if i = 2 then r.last else r.value
def partF (h : Nat) (r : Rq) (i : Nat) : Int := if h / 2 ^ i % 2 = 0 ∧ 0 < (partAt r i).length then 4 else 0
def partsFault (h : Nat) (r : Rq) : Int := firstBad (partF h r) 4 0
theorem part_step {h : Nat} {r : Rq} {j m : Nat} (hm : m = 3 - j) (hj : j < 4) (he : partF h r j = 0) : firstBad (partF h r) (4 - j) j = firstBad (partF h r) m (j + 1) := by
  subst hm
  rw [show 4 - j = 3 - j + 1 by omega, firstBad, if_neg (by simpa using he)]
theorem part_has {h : Nat} {r : Rq} {j : Nat} (hj : j < 4) (hb : h / 2 ^ j % 2 = 1) : firstBad (partF h r) (4 - j) j = firstBad (partF h r) (4 - (j + 1)) (j + 1) :=
  part_step (by omega) hj (by unfold partF; rw [if_neg (by omega)])
theorem part_none {h : Nat} {r : Rq} {j : Nat} (hj : j < 4) (hp : ¬ 0 < (partAt r j).length) : firstBad (partF h r) (4 - j) j = firstBad (partF h r) (4 - (j + 1)) (j + 1) :=
  part_step (by omega) hj (by unfold partF; rw [if_neg (by omega)])
theorem part_bad {h : Nat} {r : Rq} {j : Nat} (hj : j < 4) (hb : h / 2 ^ j % 2 = 0) (hp : 0 < (partAt r j).length) : firstBad (partF h r) (4 - j) j = 4 := by
  have e : partF h r j = 4 := by unfold partF; rw [if_pos ⟨hb, hp⟩]
  rw [show 4 - j = 3 - j + 1 by omega, firstBad, if_pos (by rw [e]; decide), e]
def namesFault (h : Nat) (r : Rq) : Int :=
  if h % 2 = 0 then 0 else if nameFault r.name ≠ 0 then nameFault r.name else if keyFault r.key ≠ 0 then keyFault r.key else if h / 4 % 2 = 0 then 0 else keyFault r.last
def bodyFault (h : Nat) (r : Rq) : Int := if namesFault h r ≠ 0 then namesFault h r else if 32 < r.value.length then 1 else partsFault h r
/-- What wire.Check and RequestFault answer. -/
def rqFault (r : Rq) : Int := if ¬ (1 ≤ r.kind ∧ r.kind ≤ 8) then 5 else bodyFault (hasS r.kind.toNat) r
end Go.Proofs.YtjgdeeabejoegaaDoor
namespace Go.Proofs.YtjgdeeabejoegaaDoor
open Go.RowKit
set_option linter.unusedVariables false
set_option linter.unusedSimpArgs false

theorem part_04 (h : Nat) (r : Rq) (i : Nat) : partF h r i = 0 ∨ partF h r i = 4 := by unfold partF; split <;> simp
theorem parts_4 {h : Nat} {r : Rq} (j : Nat) (hj : j < 4) (hb : h / 2 ^ j % 2 = 0) (hp : 0 < (partAt r j).length) : partsFault h r = 4 := by
  have e : partF h r j = 4 := by unfold partF; rw [if_pos ⟨hb, hp⟩]
  unfold partsFault
  rcases (by omega : j = 0 ∨ j = 1 ∨ j = 2 ∨ j = 3) with rfl | rfl | rfl | rfl <;>
    rcases part_04 h r 0 with h0 | h0 <;> rcases part_04 h r 1 with h1 | h1 <;> rcases part_04 h r 2 with h2 | h2 <;> rcases part_04 h r 3 with h3 | h3 <;> simp_all [firstBad]
theorem parts_0 {h : Nat} {r : Rq} (hp : ∀ j, j < 4 → h / 2 ^ j % 2 = 0 → ¬ 0 < (partAt r j).length) : partsFault h r = 0 := by
  have e : ∀ j, j < 4 → partF h r j = 0 := fun j hj => by
    unfold partF
    rw [if_neg fun h => hp j hj h.1 h.2]
  unfold partsFault
  simp [firstBad, e]
theorem names_0' (r : Rq) : namesFault 0 r = 0 := rfl
theorem names_3' (r : Rq) : namesFault 3 r = if nameFault r.name ≠ 0 then nameFault r.name else keyFault r.key := by
  by_cases h : keyFault r.key = 0 <;> simp [namesFault, h]
theorem names_7' (r : Rq) : namesFault 7 r = if nameFault r.name ≠ 0 then nameFault r.name else if keyFault r.key ≠ 0 then keyFault r.key else keyFault r.last := by
  simp [namesFault]
theorem names_11' (r : Rq) : namesFault 11 r = if nameFault r.name ≠ 0 then nameFault r.name else keyFault r.key := by
  by_cases h : keyFault r.key = 0 <;> simp [namesFault, h]
theorem body_names' {h : Nat} {r : Rq} (hn : namesFault h r ≠ 0) : bodyFault h r = namesFault h r := by unfold bodyFault; rw [if_pos hn]
theorem body_value' {h : Nat} {r : Rq} (hn : namesFault h r = 0) (hv : 32 < r.value.length) : bodyFault h r = 1 := by unfold bodyFault; rw [if_neg (by simp [hn]), if_pos hv]
theorem body_parts' {h : Nat} {r : Rq} (hn : namesFault h r = 0) (hv : r.value.length ≤ 32) : bodyFault h r = partsFault h r := by unfold bodyFault; rw [if_neg (by simp [hn]), if_neg (by omega)]
set_option maxRecDepth 100000 in
set_option maxHeartbeats 1000000 in
theorem named_ok (w : World) (k : Nat) (h1 : 1 ≤ k) (h8 : k ≤ 8) : Calls Tryd.prog 84 #[.int .i64 k] w (fun e w' => e = .returned (.bool (named k)) ∧ w' = w) := by
  have : k = 1 ∨ k = 2 ∨ k = 3 ∨ k = 4 ∨ k = 5 ∨ k = 6 ∨ k = 7 ∨ k = 8 := by omega
  clear h1 h8
  rcases this with rfl | rfl | rfl | rfl | rfl | rfl | rfl | rfl
  all_goals
    go_enter Tryd.func84, Tryd.ntmps84
    go_wp2_with (go_at_call 83; refine (in_ok _ _ _ _).mono ?_; rintro e w' ⟨rfl, rfl⟩)
    go_ret
    exact ⟨rfl, rfl⟩
theorem named_of {k : Nat} {h : Nat} (hh : hasS k = h) : named k = (h != 0) := by unfold named; rw [hh]
theorem kinds_of {k : Nat} (h1 : 1 ≤ k) (h8 : k ≤ 8) : (hasS k = 0 ∧ k ≠ 3 ∧ k ≠ 4) ∨ (hasS k = 3 ∧ k ≠ 3 ∧ k ≠ 4) ∨ (hasS k = 7 ∧ k = 3) ∨ (hasS k = 11 ∧ k = 4) := by
  have : k = 1 ∨ k = 2 ∨ k = 3 ∨ k = 4 ∨ k = 5 ∨ k = 6 ∨ k = 7 ∨ k = 8 := by omega
  rcases this with rfl | rfl | rfl | rfl | rfl | rfl | rfl | rfl <;> decide

set_option maxRecDepth 100000 in
set_option maxHeartbeats 4000000 in
theorem rqFault_0 (w : World) (A B C D : Option Addr) (n e l v : List UInt8) (a b c d : Nat) (k : Nat) (hk1 : 1 ≤ k) (hk8 : k ≤ 8) (hh : hasS k = 0) (hk3 : k ≠ 3) (hk4 : k ≠ 4) (hbn : n.length ≤ big) (hbe : e.length ≤ big) :
    Calls Tryd.prog 41 #[.agg #[.int .i64 k, .slice A n.length a, .slice B e.length b, .slice C l.length c, .slice D v.length d]] w (RetV w (.int .i64 (bodyFault 0 ⟨k, n, e, l, v⟩))) := by
  have Hnm := Lib.hid (show ∀ W : World, Calls Tryd.prog 84 #[.int .i64 k] W (fun e w' => e = .returned (.bool false) ∧ w' = W) from fun W => by have h := named_ok W k hk1 hk8; rw [named_of hh] at h; exact h)
  have hi : (decide ((1 : Int) ≤ (k : Int)) && decide ((k : Int) ≤ 8)) = true := by simp; omega
  have h3 : ((k : Int) == 3) = false := by simp; omega
  have h3' : ((k : Int) != 3) = true := by simp; omega
  have h4' : ((k : Int) != 4) = true := by simp; omega
  clear hh
  by_cases hv : 32 < v.length
  · have Hv := Lib.hid (body_value' (r := ⟨k, n, e, l, v⟩) (names_0' _) hv)
    have hv' : decide ((32 : Int) < (v.length : Int)) = true := decide_eq_true (by omega)
    go_enter Tryd.func41, Tryd.ntmps41
    go_wp2_with (first
        | (go_at_call 83; refine (in_ok _ _ _ _).mono ?_; rintro e1 w1 ⟨rfl, rfl⟩)
        | (go_at_call 84; refine (Hnm.out _).mono ?_; rintro e1 w1 ⟨rfl, rfl⟩)
        | (go_at_call 85; refine (nameFault_ok _ A n a).mono ?_; rintro e1 w1 ⟨rfl, rfl⟩)
        | (go_at_call 86; (with_reducible refine (keyFault_ok _ B e b).mono ?_); rintro e1 w1 ⟨rfl, rfl⟩)
        | (go_at_call 86; (with_reducible refine (keyFault_ok _ C l c).mono ?_); rintro e1 w1 ⟨rfl, rfl⟩))
    go_ret
    exact ⟨ret_int (by rw [Hv.out]), by repeat' (first | exact Below.refl _ _ | assumption | refine Below.drew ?_ | refine below_drewN ?_ _ | refine Below.alloc ?_ (by first | exact Nat.le_refl _ | omega | (simp; done) | (simp; omega)) _)⟩
  · have Hb := Lib.hid (body_parts' (r := ⟨k, n, e, l, v⟩) (names_0' _) (by show v.length ≤ 32; omega))
    have hv' : decide ((32 : Int) < (v.length : Int)) = false := decide_eq_false (by omega)
    have hw : IntKind.i64.wrap ((n.length : Int) + (e.length : Int)) = (n.length : Int) + (e.length : Int) := IntWalk.i64_in _ (by unfold big at hbn hbe; omega)
    by_cases ht : 0 < n.length + e.length
    · have h00 : partsFault 0 ⟨k, n, e, l, v⟩ = 4 := by
        by_cases h0 : 0 < n.length
        · exact parts_4 0 (by decide) (by decide) h0
        · exact parts_4 1 (by decide) (by decide) (by show 0 < e.length; omega)
      have Hv := Lib.hid (show bodyFault 0 ⟨k, n, e, l, v⟩ = 4 from Hb.out.trans h00)
      have ht' : decide ((0 : Int) < (n.length : Int) + (e.length : Int)) = true := decide_eq_true (by omega)
      go_enter Tryd.func41, Tryd.ntmps41
      go_wp2_with (first
          | (go_at_call 83; refine (in_ok _ _ _ _).mono ?_; rintro e1 w1 ⟨rfl, rfl⟩)
          | (go_at_call 84; refine (Hnm.out _).mono ?_; rintro e1 w1 ⟨rfl, rfl⟩)
          | (go_at_call 85; refine (nameFault_ok _ A n a).mono ?_; rintro e1 w1 ⟨rfl, rfl⟩)
          | (go_at_call 86; (with_reducible refine (keyFault_ok _ B e b).mono ?_); rintro e1 w1 ⟨rfl, rfl⟩)
          | (go_at_call 86; (with_reducible refine (keyFault_ok _ C l c).mono ?_); rintro e1 w1 ⟨rfl, rfl⟩))
      go_ret
      exact ⟨ret_int (by rw [Hv.out]), by repeat' (first | exact Below.refl _ _ | assumption | refine Below.drew ?_ | refine below_drewN ?_ _ | refine Below.alloc ?_ (by first | exact Nat.le_refl _ | omega | (simp; done) | (simp; omega)) _)⟩
    · have ht0 : decide ((0 : Int) < (n.length : Int) + (e.length : Int)) = false := decide_eq_false (by omega)
      have h0 : ¬ 0 < n.length ∧ ¬ 0 < e.length := by omega
      by_cases hl : 0 < l.length
      · have Hv := Lib.hid (show bodyFault 0 ⟨k, n, e, l, v⟩ = 4 from Hb.out.trans (parts_4 2 (by decide) (by decide) hl))
        have ht' : decide ((0 : Int) < (l.length : Int)) = true := decide_eq_true (by omega)
        go_enter Tryd.func41, Tryd.ntmps41
        go_wp2_with (first
            | (go_at_call 83; refine (in_ok _ _ _ _).mono ?_; rintro e1 w1 ⟨rfl, rfl⟩)
            | (go_at_call 84; refine (Hnm.out _).mono ?_; rintro e1 w1 ⟨rfl, rfl⟩)
            | (go_at_call 85; refine (nameFault_ok _ A n a).mono ?_; rintro e1 w1 ⟨rfl, rfl⟩)
            | (go_at_call 86; (with_reducible refine (keyFault_ok _ B e b).mono ?_); rintro e1 w1 ⟨rfl, rfl⟩)
            | (go_at_call 86; (with_reducible refine (keyFault_ok _ C l c).mono ?_); rintro e1 w1 ⟨rfl, rfl⟩))
        go_ret
        exact ⟨ret_int (by rw [Hv.out]), by repeat' (first | exact Below.refl _ _ | assumption | refine Below.drew ?_ | refine below_drewN ?_ _ | refine Below.alloc ?_ (by first | exact Nat.le_refl _ | omega | (simp; done) | (simp; omega)) _)⟩
      · have htl : decide ((0 : Int) < (l.length : Int)) = false := decide_eq_false (by omega)
        by_cases hv2 : 0 < v.length
        · have Hv := Lib.hid (show bodyFault 0 ⟨k, n, e, l, v⟩ = 4 from Hb.out.trans (parts_4 3 (by decide) (by decide) hv2))
          have ht' : decide ((0 : Int) < (v.length : Int)) = true := decide_eq_true (by omega)
          go_enter Tryd.func41, Tryd.ntmps41
          go_wp2_with (first
              | (go_at_call 83; refine (in_ok _ _ _ _).mono ?_; rintro e1 w1 ⟨rfl, rfl⟩)
              | (go_at_call 84; refine (Hnm.out _).mono ?_; rintro e1 w1 ⟨rfl, rfl⟩)
              | (go_at_call 85; refine (nameFault_ok _ A n a).mono ?_; rintro e1 w1 ⟨rfl, rfl⟩)
              | (go_at_call 86; (with_reducible refine (keyFault_ok _ B e b).mono ?_); rintro e1 w1 ⟨rfl, rfl⟩)
              | (go_at_call 86; (with_reducible refine (keyFault_ok _ C l c).mono ?_); rintro e1 w1 ⟨rfl, rfl⟩))
          go_ret
          exact ⟨ret_int (by rw [Hv.out]), by repeat' (first | exact Below.refl _ _ | assumption | refine Below.drew ?_ | refine below_drewN ?_ _ | refine Below.alloc ?_ (by first | exact Nat.le_refl _ | omega | (simp; done) | (simp; omega)) _)⟩
        · have htv : decide ((0 : Int) < (v.length : Int)) = false := decide_eq_false (by omega)
          have h00 : partsFault 0 ⟨k, n, e, l, v⟩ = 0 := parts_0 fun j hj hb => by
            rcases (by omega : j = 0 ∨ j = 1 ∨ j = 2 ∨ j = 3) with rfl | rfl | rfl | rfl <;> first | exact absurd hb (by decide) | skip
            · exact h0.1
            · exact h0.2
            · exact hl
            · exact hv2
          have Hv := Lib.hid (show bodyFault 0 ⟨k, n, e, l, v⟩ = 0 from Hb.out.trans h00)
          clear h00
          go_enter Tryd.func41, Tryd.ntmps41
          go_wp2_with (first
              | (go_at_call 83; refine (in_ok _ _ _ _).mono ?_; rintro e1 w1 ⟨rfl, rfl⟩)
              | (go_at_call 84; refine (Hnm.out _).mono ?_; rintro e1 w1 ⟨rfl, rfl⟩)
              | (go_at_call 85; refine (nameFault_ok _ A n a).mono ?_; rintro e1 w1 ⟨rfl, rfl⟩)
              | (go_at_call 86; (with_reducible refine (keyFault_ok _ B e b).mono ?_); rintro e1 w1 ⟨rfl, rfl⟩)
              | (go_at_call 86; (with_reducible refine (keyFault_ok _ C l c).mono ?_); rintro e1 w1 ⟨rfl, rfl⟩))
          go_ret
          exact ⟨ret_int (by rw [Hv.out]), by repeat' (first | exact Below.refl _ _ | assumption | refine Below.drew ?_ | refine below_drewN ?_ _ | refine Below.alloc ?_ (by first | exact Nat.le_refl _ | omega | (simp; done) | (simp; omega)) _)⟩
set_option maxRecDepth 100000 in
set_option maxHeartbeats 4000000 in
theorem rqFault_3 (w : World) (A B C D : Option Addr) (n e l v : List UInt8) (a b c d : Nat) (k : Nat) (hk1 : 1 ≤ k) (hk8 : k ≤ 8) (hh : hasS k = 3) (hk3 : k ≠ 3) (hk4 : k ≠ 4) :
    Calls Tryd.prog 41 #[.agg #[.int .i64 k, .slice A n.length a, .slice B e.length b, .slice C l.length c, .slice D v.length d]] w (RetV w (.int .i64 (bodyFault 3 ⟨k, n, e, l, v⟩))) := by
  have Hnm := Lib.hid (show ∀ W : World, Calls Tryd.prog 84 #[.int .i64 k] W (fun e w' => e = .returned (.bool true) ∧ w' = W) from fun W => by have h := named_ok W k hk1 hk8; rw [named_of hh] at h; exact h)
  have hi : (decide ((1 : Int) ≤ (k : Int)) && decide ((k : Int) ≤ 8)) = true := by simp; omega
  have h3 : ((k : Int) == 3) = false := by simp; omega
  have h3' : ((k : Int) != 3) = true := by simp; omega
  have h4' : ((k : Int) != 4) = true := by simp; omega
  clear hh
  by_cases hn : nameFault n = 0
  · have Hn := Lib.hid hn
    by_cases hk : keyFault e = 0
    · have Hk := Lib.hid hk
      have Hnn := Lib.hid (show namesFault 3 ⟨k, n, e, l, v⟩ = 0 by rw [names_3', if_neg (by simpa using hn)]; exact hk)
      clear hn hk
      by_cases hv : 32 < v.length
      · have Hv := Lib.hid (body_value' (r := ⟨k, n, e, l, v⟩) Hnn.out hv)
        have hv' : decide ((32 : Int) < (v.length : Int)) = true := decide_eq_true (by omega)
        go_enter Tryd.func41, Tryd.ntmps41
        go_wp2_with (first
            | (go_at_call 83; refine (in_ok _ _ _ _).mono ?_; rintro e1 w1 ⟨rfl, rfl⟩)
            | (go_at_call 84; refine (Hnm.out _).mono ?_; rintro e1 w1 ⟨rfl, rfl⟩)
            | (go_at_call 85; refine (nameFault_ok _ A n a).mono ?_; rintro e1 w1 ⟨rfl, rfl⟩; rw [Hn.out])
            | (go_at_call 86; (with_reducible refine (keyFault_ok _ B e b).mono ?_); rintro e1 w1 ⟨rfl, rfl⟩; rw [Hk.out])
            | (go_at_call 86; (with_reducible refine (keyFault_ok _ C l c).mono ?_); rintro e1 w1 ⟨rfl, rfl⟩))
        go_ret
        exact ⟨ret_int (by rw [Hv.out]), by repeat' (first | exact Below.refl _ _ | assumption | refine Below.drew ?_ | refine below_drewN ?_ _ | refine Below.alloc ?_ (by first | exact Nat.le_refl _ | omega | (simp; done) | (simp; omega)) _)⟩
      · have Hb := Lib.hid (body_parts' (r := ⟨k, n, e, l, v⟩) Hnn.out (by show v.length ≤ 32; omega))
        have hv' : decide ((32 : Int) < (v.length : Int)) = false := decide_eq_false (by omega)
        by_cases hl : 0 < l.length
        · have Hv := Lib.hid (show bodyFault 3 ⟨k, n, e, l, v⟩ = 4 from Hb.out.trans (parts_4 2 (by decide) (by decide) hl))
          have ht' : decide ((0 : Int) < (l.length : Int)) = true := decide_eq_true (by omega)
          go_enter Tryd.func41, Tryd.ntmps41
          go_wp2_with (first
              | (go_at_call 83; refine (in_ok _ _ _ _).mono ?_; rintro e1 w1 ⟨rfl, rfl⟩)
              | (go_at_call 84; refine (Hnm.out _).mono ?_; rintro e1 w1 ⟨rfl, rfl⟩)
              | (go_at_call 85; refine (nameFault_ok _ A n a).mono ?_; rintro e1 w1 ⟨rfl, rfl⟩; rw [Hn.out])
              | (go_at_call 86; (with_reducible refine (keyFault_ok _ B e b).mono ?_); rintro e1 w1 ⟨rfl, rfl⟩; rw [Hk.out])
              | (go_at_call 86; (with_reducible refine (keyFault_ok _ C l c).mono ?_); rintro e1 w1 ⟨rfl, rfl⟩))
          go_ret
          exact ⟨ret_int (by rw [Hv.out]), by repeat' (first | exact Below.refl _ _ | assumption | refine Below.drew ?_ | refine below_drewN ?_ _ | refine Below.alloc ?_ (by first | exact Nat.le_refl _ | omega | (simp; done) | (simp; omega)) _)⟩
        · have htl : decide ((0 : Int) < (l.length : Int)) = false := decide_eq_false (by omega)
          by_cases hv2 : 0 < v.length
          · have Hv := Lib.hid (show bodyFault 3 ⟨k, n, e, l, v⟩ = 4 from Hb.out.trans (parts_4 3 (by decide) (by decide) hv2))
            have ht' : decide ((0 : Int) < (v.length : Int)) = true := decide_eq_true (by omega)
            go_enter Tryd.func41, Tryd.ntmps41
            go_wp2_with (first
                | (go_at_call 83; refine (in_ok _ _ _ _).mono ?_; rintro e1 w1 ⟨rfl, rfl⟩)
                | (go_at_call 84; refine (Hnm.out _).mono ?_; rintro e1 w1 ⟨rfl, rfl⟩)
                | (go_at_call 85; refine (nameFault_ok _ A n a).mono ?_; rintro e1 w1 ⟨rfl, rfl⟩; rw [Hn.out])
                | (go_at_call 86; (with_reducible refine (keyFault_ok _ B e b).mono ?_); rintro e1 w1 ⟨rfl, rfl⟩; rw [Hk.out])
                | (go_at_call 86; (with_reducible refine (keyFault_ok _ C l c).mono ?_); rintro e1 w1 ⟨rfl, rfl⟩))
            go_ret
            exact ⟨ret_int (by rw [Hv.out]), by repeat' (first | exact Below.refl _ _ | assumption | refine Below.drew ?_ | refine below_drewN ?_ _ | refine Below.alloc ?_ (by first | exact Nat.le_refl _ | omega | (simp; done) | (simp; omega)) _)⟩
          · have htv : decide ((0 : Int) < (v.length : Int)) = false := decide_eq_false (by omega)
            have h00 : partsFault 3 ⟨k, n, e, l, v⟩ = 0 := parts_0 fun j hj hb => by
              rcases (by omega : j = 0 ∨ j = 1 ∨ j = 2 ∨ j = 3) with rfl | rfl | rfl | rfl <;> first | exact absurd hb (by decide) | skip
              · exact hl
              · exact hv2
            have Hv := Lib.hid (show bodyFault 3 ⟨k, n, e, l, v⟩ = 0 from Hb.out.trans h00)
            clear h00
            go_enter Tryd.func41, Tryd.ntmps41
            go_wp2_with (first
                | (go_at_call 83; refine (in_ok _ _ _ _).mono ?_; rintro e1 w1 ⟨rfl, rfl⟩)
                | (go_at_call 84; refine (Hnm.out _).mono ?_; rintro e1 w1 ⟨rfl, rfl⟩)
                | (go_at_call 85; refine (nameFault_ok _ A n a).mono ?_; rintro e1 w1 ⟨rfl, rfl⟩; rw [Hn.out])
                | (go_at_call 86; (with_reducible refine (keyFault_ok _ B e b).mono ?_); rintro e1 w1 ⟨rfl, rfl⟩; rw [Hk.out])
                | (go_at_call 86; (with_reducible refine (keyFault_ok _ C l c).mono ?_); rintro e1 w1 ⟨rfl, rfl⟩))
            go_ret
            exact ⟨ret_int (by rw [Hv.out]), by repeat' (first | exact Below.refl _ _ | assumption | refine Below.drew ?_ | refine below_drewN ?_ _ | refine Below.alloc ?_ (by first | exact Nat.le_refl _ | omega | (simp; done) | (simp; omega)) _)⟩
    · have hf : namesFault 3 ⟨k, n, e, l, v⟩ = keyFault e := by rw [names_3', if_neg (by simpa using hn)]
      have Hv := Lib.hid ((body_names' (r := ⟨k, n, e, l, v⟩) (h := 3) (by rw [hf]; exact hk)).trans hf)
      have hk' : (keyFault e != 0) = true := by simpa using hk
      have hk'' : (keyFault e == 0) = false := by simpa using hk
      clear hn hk hf
      go_enter Tryd.func41, Tryd.ntmps41
      go_wp2_with (first
          | (go_at_call 83; refine (in_ok _ _ _ _).mono ?_; rintro e1 w1 ⟨rfl, rfl⟩)
          | (go_at_call 84; refine (Hnm.out _).mono ?_; rintro e1 w1 ⟨rfl, rfl⟩)
          | (go_at_call 85; refine (nameFault_ok _ A n a).mono ?_; rintro e1 w1 ⟨rfl, rfl⟩; rw [Hn.out])
          | (go_at_call 86; (with_reducible refine (keyFault_ok _ B e b).mono ?_); rintro e1 w1 ⟨rfl, rfl⟩)
          | (go_at_call 86; (with_reducible refine (keyFault_ok _ C l c).mono ?_); rintro e1 w1 ⟨rfl, rfl⟩))
      go_ret
      exact ⟨ret_int (by rw [Hv.out]), by repeat' (first | exact Below.refl _ _ | assumption | refine Below.drew ?_ | refine below_drewN ?_ _ | refine Below.alloc ?_ (by first | exact Nat.le_refl _ | omega | (simp; done) | (simp; omega)) _)⟩
  · have hf : namesFault 3 ⟨k, n, e, l, v⟩ = nameFault n := by rw [names_3', if_pos (by exact hn)]
    have Hv := Lib.hid ((body_names' (r := ⟨k, n, e, l, v⟩) (h := 3) (by rw [hf]; exact hn)).trans hf)
    have hn' : (nameFault n != 0) = true := by simpa using hn
    have hn'' : (nameFault n == 0) = false := by simpa using hn
    clear hn hf
    go_enter Tryd.func41, Tryd.ntmps41
    go_wp2_with (first
        | (go_at_call 83; refine (in_ok _ _ _ _).mono ?_; rintro e1 w1 ⟨rfl, rfl⟩)
        | (go_at_call 84; refine (Hnm.out _).mono ?_; rintro e1 w1 ⟨rfl, rfl⟩)
        | (go_at_call 85; refine (nameFault_ok _ A n a).mono ?_; rintro e1 w1 ⟨rfl, rfl⟩)
        | (go_at_call 86; (with_reducible refine (keyFault_ok _ B e b).mono ?_); rintro e1 w1 ⟨rfl, rfl⟩)
        | (go_at_call 86; (with_reducible refine (keyFault_ok _ C l c).mono ?_); rintro e1 w1 ⟨rfl, rfl⟩))
    go_ret
    exact ⟨ret_int (by rw [Hv.out]), by repeat' (first | exact Below.refl _ _ | assumption | refine Below.drew ?_ | refine below_drewN ?_ _ | refine Below.alloc ?_ (by first | exact Nat.le_refl _ | omega | (simp; done) | (simp; omega)) _)⟩
set_option maxRecDepth 100000 in
set_option maxHeartbeats 4000000 in
theorem rqFault_7 (w : World) (A B C D : Option Addr) (n e l v : List UInt8) (a b c d : Nat) :
    Calls Tryd.prog 41 #[.agg #[.int .i64 3, .slice A n.length a, .slice B e.length b, .slice C l.length c, .slice D v.length d]] w (RetV w (.int .i64 (bodyFault 7 ⟨3, n, e, l, v⟩))) := by
  have Hnm := Lib.hid (show ∀ W : World, Calls Tryd.prog 84 #[.int .i64 3] W (fun e w' => e = .returned (.bool true) ∧ w' = W) from fun W => named_ok W 3 (by decide) (by decide))
  by_cases hn : nameFault n = 0
  · have Hn := Lib.hid hn
    by_cases hk : keyFault e = 0
    · have Hk := Lib.hid hk
      by_cases hl : keyFault l = 0
      · have Hl := Lib.hid hl
        have Hnn := Lib.hid (show namesFault 7 ⟨3, n, e, l, v⟩ = 0 by rw [names_7', if_neg (by simpa using hn), if_neg (by simpa using hk)]; exact hl)
        clear hn hk hl
        by_cases hv : 32 < v.length
        · have Hv := Lib.hid (body_value' (r := ⟨3, n, e, l, v⟩) Hnn.out hv)
          have hv' : decide ((32 : Int) < (v.length : Int)) = true := decide_eq_true (by omega)
          go_enter Tryd.func41, Tryd.ntmps41
          go_wp2_with (first
              | (go_at_call 83; refine (in_ok _ _ _ _).mono ?_; rintro e1 w1 ⟨rfl, rfl⟩)
              | (go_at_call 84; refine (Hnm.out _).mono ?_; rintro e1 w1 ⟨rfl, rfl⟩)
              | (go_at_call 85; refine (nameFault_ok _ A n a).mono ?_; rintro e1 w1 ⟨rfl, rfl⟩; rw [Hn.out])
              | (go_at_call 86; (with_reducible refine (keyFault_ok _ B e b).mono ?_); rintro e1 w1 ⟨rfl, rfl⟩; rw [Hk.out])
              | (go_at_call 86; (with_reducible refine (keyFault_ok _ C l c).mono ?_); rintro e1 w1 ⟨rfl, rfl⟩; rw [Hl.out]))
          go_ret
          exact ⟨ret_int (by rw [Hv.out]), by repeat' (first | exact Below.refl _ _ | assumption | refine Below.drew ?_ | refine below_drewN ?_ _ | refine Below.alloc ?_ (by first | exact Nat.le_refl _ | omega | (simp; done) | (simp; omega)) _)⟩
        · have Hb := Lib.hid (body_parts' (r := ⟨3, n, e, l, v⟩) Hnn.out (by show v.length ≤ 32; omega))
          have hv' : decide ((32 : Int) < (v.length : Int)) = false := decide_eq_false (by omega)
          by_cases hv2 : 0 < v.length
          · have Hv := Lib.hid (show bodyFault 7 ⟨3, n, e, l, v⟩ = 4 from Hb.out.trans (parts_4 3 (by decide) (by decide) hv2))
            have ht' : decide ((0 : Int) < (v.length : Int)) = true := decide_eq_true (by omega)
            go_enter Tryd.func41, Tryd.ntmps41
            go_wp2_with (first
                | (go_at_call 83; refine (in_ok _ _ _ _).mono ?_; rintro e1 w1 ⟨rfl, rfl⟩)
                | (go_at_call 84; refine (Hnm.out _).mono ?_; rintro e1 w1 ⟨rfl, rfl⟩)
                | (go_at_call 85; refine (nameFault_ok _ A n a).mono ?_; rintro e1 w1 ⟨rfl, rfl⟩; rw [Hn.out])
                | (go_at_call 86; (with_reducible refine (keyFault_ok _ B e b).mono ?_); rintro e1 w1 ⟨rfl, rfl⟩; rw [Hk.out])
                | (go_at_call 86; (with_reducible refine (keyFault_ok _ C l c).mono ?_); rintro e1 w1 ⟨rfl, rfl⟩; rw [Hl.out]))
            go_ret
            exact ⟨ret_int (by rw [Hv.out]), by repeat' (first | exact Below.refl _ _ | assumption | refine Below.drew ?_ | refine below_drewN ?_ _ | refine Below.alloc ?_ (by first | exact Nat.le_refl _ | omega | (simp; done) | (simp; omega)) _)⟩
          · have htv : decide ((0 : Int) < (v.length : Int)) = false := decide_eq_false (by omega)
            have h00 : partsFault 7 ⟨3, n, e, l, v⟩ = 0 := parts_0 fun j hj hb => by
              rcases (by omega : j = 0 ∨ j = 1 ∨ j = 2 ∨ j = 3) with rfl | rfl | rfl | rfl <;> first | exact absurd hb (by decide) | skip
              · exact hv2
            have Hv := Lib.hid (show bodyFault 7 ⟨3, n, e, l, v⟩ = 0 from Hb.out.trans h00)
            clear h00
            go_enter Tryd.func41, Tryd.ntmps41
            go_wp2_with (first
                | (go_at_call 83; refine (in_ok _ _ _ _).mono ?_; rintro e1 w1 ⟨rfl, rfl⟩)
                | (go_at_call 84; refine (Hnm.out _).mono ?_; rintro e1 w1 ⟨rfl, rfl⟩)
                | (go_at_call 85; refine (nameFault_ok _ A n a).mono ?_; rintro e1 w1 ⟨rfl, rfl⟩; rw [Hn.out])
                | (go_at_call 86; (with_reducible refine (keyFault_ok _ B e b).mono ?_); rintro e1 w1 ⟨rfl, rfl⟩; rw [Hk.out])
                | (go_at_call 86; (with_reducible refine (keyFault_ok _ C l c).mono ?_); rintro e1 w1 ⟨rfl, rfl⟩; rw [Hl.out]))
            go_ret
            exact ⟨ret_int (by rw [Hv.out]), by repeat' (first | exact Below.refl _ _ | assumption | refine Below.drew ?_ | refine below_drewN ?_ _ | refine Below.alloc ?_ (by first | exact Nat.le_refl _ | omega | (simp; done) | (simp; omega)) _)⟩
      · have hf : namesFault 7 ⟨3, n, e, l, v⟩ = keyFault l := by rw [names_7', if_neg (by simpa using hn), if_neg (by simpa using hk)]
        have Hv := Lib.hid ((body_names' (r := ⟨3, n, e, l, v⟩) (h := 7) (by rw [hf]; exact hl)).trans hf)
        have hl' : (keyFault l != 0) = true := by simpa using hl
        clear hn hk hl hf
        go_enter Tryd.func41, Tryd.ntmps41
        go_wp2_with (first
            | (go_at_call 83; refine (in_ok _ _ _ _).mono ?_; rintro e1 w1 ⟨rfl, rfl⟩)
            | (go_at_call 84; refine (Hnm.out _).mono ?_; rintro e1 w1 ⟨rfl, rfl⟩)
            | (go_at_call 85; refine (nameFault_ok _ A n a).mono ?_; rintro e1 w1 ⟨rfl, rfl⟩; rw [Hn.out])
            | (go_at_call 86; (with_reducible refine (keyFault_ok _ B e b).mono ?_); rintro e1 w1 ⟨rfl, rfl⟩; rw [Hk.out])
            | (go_at_call 86; (with_reducible refine (keyFault_ok _ C l c).mono ?_); rintro e1 w1 ⟨rfl, rfl⟩))
        go_ret
        exact ⟨ret_int (by rw [Hv.out]), by repeat' (first | exact Below.refl _ _ | assumption | refine Below.drew ?_ | refine below_drewN ?_ _ | refine Below.alloc ?_ (by first | exact Nat.le_refl _ | omega | (simp; done) | (simp; omega)) _)⟩
    · have hf : namesFault 7 ⟨3, n, e, l, v⟩ = keyFault e := by rw [names_7', if_neg (by simpa using hn)]; exact if_pos hk
      have Hv := Lib.hid ((body_names' (r := ⟨3, n, e, l, v⟩) (h := 7) (by rw [hf]; exact hk)).trans hf)
      have hk' : (keyFault e != 0) = true := by simpa using hk
      have hk'' : (keyFault e == 0) = false := by simpa using hk
      clear hn hk hf
      go_enter Tryd.func41, Tryd.ntmps41
      go_wp2_with (first
          | (go_at_call 83; refine (in_ok _ _ _ _).mono ?_; rintro e1 w1 ⟨rfl, rfl⟩)
          | (go_at_call 84; refine (Hnm.out _).mono ?_; rintro e1 w1 ⟨rfl, rfl⟩)
          | (go_at_call 85; refine (nameFault_ok _ A n a).mono ?_; rintro e1 w1 ⟨rfl, rfl⟩; rw [Hn.out])
          | (go_at_call 86; (with_reducible refine (keyFault_ok _ B e b).mono ?_); rintro e1 w1 ⟨rfl, rfl⟩)
          | (go_at_call 86; (with_reducible refine (keyFault_ok _ C l c).mono ?_); rintro e1 w1 ⟨rfl, rfl⟩))
      go_ret
      exact ⟨ret_int (by rw [Hv.out]), by repeat' (first | exact Below.refl _ _ | assumption | refine Below.drew ?_ | refine below_drewN ?_ _ | refine Below.alloc ?_ (by first | exact Nat.le_refl _ | omega | (simp; done) | (simp; omega)) _)⟩
  · have hf : namesFault 7 ⟨3, n, e, l, v⟩ = nameFault n := by rw [names_7', if_pos (by exact hn)]
    have Hv := Lib.hid ((body_names' (r := ⟨3, n, e, l, v⟩) (h := 7) (by rw [hf]; exact hn)).trans hf)
    have hn' : (nameFault n != 0) = true := by simpa using hn
    have hn'' : (nameFault n == 0) = false := by simpa using hn
    clear hn hf
    go_enter Tryd.func41, Tryd.ntmps41
    go_wp2_with (first
        | (go_at_call 83; refine (in_ok _ _ _ _).mono ?_; rintro e1 w1 ⟨rfl, rfl⟩)
        | (go_at_call 84; refine (Hnm.out _).mono ?_; rintro e1 w1 ⟨rfl, rfl⟩)
        | (go_at_call 85; refine (nameFault_ok _ A n a).mono ?_; rintro e1 w1 ⟨rfl, rfl⟩)
        | (go_at_call 86; (with_reducible refine (keyFault_ok _ B e b).mono ?_); rintro e1 w1 ⟨rfl, rfl⟩)
        | (go_at_call 86; (with_reducible refine (keyFault_ok _ C l c).mono ?_); rintro e1 w1 ⟨rfl, rfl⟩))
    go_ret
    exact ⟨ret_int (by rw [Hv.out]), by repeat' (first | exact Below.refl _ _ | assumption | refine Below.drew ?_ | refine below_drewN ?_ _ | refine Below.alloc ?_ (by first | exact Nat.le_refl _ | omega | (simp; done) | (simp; omega)) _)⟩
set_option maxRecDepth 100000 in
set_option maxHeartbeats 4000000 in
theorem rqFault_11 (w : World) (A B C D : Option Addr) (n e l v : List UInt8) (a b c d : Nat) :
    Calls Tryd.prog 41 #[.agg #[.int .i64 4, .slice A n.length a, .slice B e.length b, .slice C l.length c, .slice D v.length d]] w (RetV w (.int .i64 (bodyFault 11 ⟨4, n, e, l, v⟩))) := by
  have Hnm := Lib.hid (show ∀ W : World, Calls Tryd.prog 84 #[.int .i64 4] W (fun e w' => e = .returned (.bool true) ∧ w' = W) from fun W => named_ok W 4 (by decide) (by decide))
  by_cases hn : nameFault n = 0
  · have Hn := Lib.hid hn
    by_cases hk : keyFault e = 0
    · have Hk := Lib.hid hk
      have Hnn := Lib.hid (show namesFault 11 ⟨4, n, e, l, v⟩ = 0 by rw [names_11', if_neg (by simpa using hn)]; exact hk)
      clear hn hk
      by_cases hv : 32 < v.length
      · have Hv := Lib.hid (body_value' (r := ⟨4, n, e, l, v⟩) Hnn.out hv)
        have hv' : decide ((32 : Int) < (v.length : Int)) = true := decide_eq_true (by omega)
        go_enter Tryd.func41, Tryd.ntmps41
        go_wp2_with (first
            | (go_at_call 83; refine (in_ok _ _ _ _).mono ?_; rintro e1 w1 ⟨rfl, rfl⟩)
            | (go_at_call 84; refine (Hnm.out _).mono ?_; rintro e1 w1 ⟨rfl, rfl⟩)
            | (go_at_call 85; refine (nameFault_ok _ A n a).mono ?_; rintro e1 w1 ⟨rfl, rfl⟩; rw [Hn.out])
            | (go_at_call 86; (with_reducible refine (keyFault_ok _ B e b).mono ?_); rintro e1 w1 ⟨rfl, rfl⟩; rw [Hk.out])
            | (go_at_call 86; (with_reducible refine (keyFault_ok _ C l c).mono ?_); rintro e1 w1 ⟨rfl, rfl⟩))
        go_ret
        exact ⟨ret_int (by rw [Hv.out]), by repeat' (first | exact Below.refl _ _ | assumption | refine Below.drew ?_ | refine below_drewN ?_ _ | refine Below.alloc ?_ (by first | exact Nat.le_refl _ | omega | (simp; done) | (simp; omega)) _)⟩
      · have Hb := Lib.hid (body_parts' (r := ⟨4, n, e, l, v⟩) Hnn.out (by show v.length ≤ 32; omega))
        have hv' : decide ((32 : Int) < (v.length : Int)) = false := decide_eq_false (by omega)
        by_cases hl : 0 < l.length
        · have Hv := Lib.hid (show bodyFault 11 ⟨4, n, e, l, v⟩ = 4 from Hb.out.trans (parts_4 2 (by decide) (by decide) hl))
          have ht' : decide ((0 : Int) < (l.length : Int)) = true := decide_eq_true (by omega)
          go_enter Tryd.func41, Tryd.ntmps41
          go_wp2_with (first
              | (go_at_call 83; refine (in_ok _ _ _ _).mono ?_; rintro e1 w1 ⟨rfl, rfl⟩)
              | (go_at_call 84; refine (Hnm.out _).mono ?_; rintro e1 w1 ⟨rfl, rfl⟩)
              | (go_at_call 85; refine (nameFault_ok _ A n a).mono ?_; rintro e1 w1 ⟨rfl, rfl⟩; rw [Hn.out])
              | (go_at_call 86; (with_reducible refine (keyFault_ok _ B e b).mono ?_); rintro e1 w1 ⟨rfl, rfl⟩; rw [Hk.out])
              | (go_at_call 86; (with_reducible refine (keyFault_ok _ C l c).mono ?_); rintro e1 w1 ⟨rfl, rfl⟩))
          go_ret
          exact ⟨ret_int (by rw [Hv.out]), by repeat' (first | exact Below.refl _ _ | assumption | refine Below.drew ?_ | refine below_drewN ?_ _ | refine Below.alloc ?_ (by first | exact Nat.le_refl _ | omega | (simp; done) | (simp; omega)) _)⟩
        · have htl : decide ((0 : Int) < (l.length : Int)) = false := decide_eq_false (by omega)
          have h00 : partsFault 11 ⟨4, n, e, l, v⟩ = 0 := parts_0 fun j hj hb => by
            rcases (by omega : j = 0 ∨ j = 1 ∨ j = 2 ∨ j = 3) with rfl | rfl | rfl | rfl <;> first | exact absurd hb (by decide) | skip
            · exact hl
          have Hv := Lib.hid (show bodyFault 11 ⟨4, n, e, l, v⟩ = 0 from Hb.out.trans h00)
          clear h00
          go_enter Tryd.func41, Tryd.ntmps41
          go_wp2_with (first
              | (go_at_call 83; refine (in_ok _ _ _ _).mono ?_; rintro e1 w1 ⟨rfl, rfl⟩)
              | (go_at_call 84; refine (Hnm.out _).mono ?_; rintro e1 w1 ⟨rfl, rfl⟩)
              | (go_at_call 85; refine (nameFault_ok _ A n a).mono ?_; rintro e1 w1 ⟨rfl, rfl⟩; rw [Hn.out])
              | (go_at_call 86; (with_reducible refine (keyFault_ok _ B e b).mono ?_); rintro e1 w1 ⟨rfl, rfl⟩; rw [Hk.out])
              | (go_at_call 86; (with_reducible refine (keyFault_ok _ C l c).mono ?_); rintro e1 w1 ⟨rfl, rfl⟩))
          go_ret
          exact ⟨ret_int (by rw [Hv.out]), by repeat' (first | exact Below.refl _ _ | assumption | refine Below.drew ?_ | refine below_drewN ?_ _ | refine Below.alloc ?_ (by first | exact Nat.le_refl _ | omega | (simp; done) | (simp; omega)) _)⟩
    · have hf : namesFault 11 ⟨4, n, e, l, v⟩ = keyFault e := by rw [names_11', if_neg (by simpa using hn)]
      have Hv := Lib.hid ((body_names' (r := ⟨4, n, e, l, v⟩) (h := 11) (by rw [hf]; exact hk)).trans hf)
      have hk' : (keyFault e != 0) = true := by simpa using hk
      have hk'' : (keyFault e == 0) = false := by simpa using hk
      clear hn hk hf
      go_enter Tryd.func41, Tryd.ntmps41
      go_wp2_with (first
          | (go_at_call 83; refine (in_ok _ _ _ _).mono ?_; rintro e1 w1 ⟨rfl, rfl⟩)
          | (go_at_call 84; refine (Hnm.out _).mono ?_; rintro e1 w1 ⟨rfl, rfl⟩)
          | (go_at_call 85; refine (nameFault_ok _ A n a).mono ?_; rintro e1 w1 ⟨rfl, rfl⟩; rw [Hn.out])
          | (go_at_call 86; (with_reducible refine (keyFault_ok _ B e b).mono ?_); rintro e1 w1 ⟨rfl, rfl⟩)
          | (go_at_call 86; (with_reducible refine (keyFault_ok _ C l c).mono ?_); rintro e1 w1 ⟨rfl, rfl⟩))
      go_ret
      exact ⟨ret_int (by rw [Hv.out]), by repeat' (first | exact Below.refl _ _ | assumption | refine Below.drew ?_ | refine below_drewN ?_ _ | refine Below.alloc ?_ (by first | exact Nat.le_refl _ | omega | (simp; done) | (simp; omega)) _)⟩
  · have hf : namesFault 11 ⟨4, n, e, l, v⟩ = nameFault n := by rw [names_11', if_pos (by exact hn)]
    have Hv := Lib.hid ((body_names' (r := ⟨4, n, e, l, v⟩) (h := 11) (by rw [hf]; exact hn)).trans hf)
    have hn' : (nameFault n != 0) = true := by simpa using hn
    have hn'' : (nameFault n == 0) = false := by simpa using hn
    clear hn hf
    go_enter Tryd.func41, Tryd.ntmps41
    go_wp2_with (first
        | (go_at_call 83; refine (in_ok _ _ _ _).mono ?_; rintro e1 w1 ⟨rfl, rfl⟩)
        | (go_at_call 84; refine (Hnm.out _).mono ?_; rintro e1 w1 ⟨rfl, rfl⟩)
        | (go_at_call 85; refine (nameFault_ok _ A n a).mono ?_; rintro e1 w1 ⟨rfl, rfl⟩)
        | (go_at_call 86; (with_reducible refine (keyFault_ok _ B e b).mono ?_); rintro e1 w1 ⟨rfl, rfl⟩)
        | (go_at_call 86; (with_reducible refine (keyFault_ok _ C l c).mono ?_); rintro e1 w1 ⟨rfl, rfl⟩))
    go_ret
    exact ⟨ret_int (by rw [Hv.out]), by repeat' (first | exact Below.refl _ _ | assumption | refine Below.drew ?_ | refine below_drewN ?_ _ | refine Below.alloc ?_ (by first | exact Nat.le_refl _ | omega | (simp; done) | (simp; omega)) _)⟩
set_option maxRecDepth 100000 in
set_option maxHeartbeats 4000000 in
theorem rqFault_ok (w : World) (A B C D : Option Addr) (r : Rq) (a b c d : Nat) (hbn : r.name.length ≤ big) (hbe : r.key.length ≤ big) :
    Calls Tryd.prog 41 #[.agg #[.int .i64 r.kind, .slice A r.name.length a, .slice B r.key.length b, .slice C r.last.length c, .slice D r.value.length d]] w (RetV w (.int .i64 (rqFault r))) := by
  obtain ⟨i, n, e, l, v⟩ := r
  by_cases hk : 1 ≤ i ∧ i ≤ 8
  · obtain ⟨k, rfl⟩ : ∃ k : Nat, i = k := ⟨i.toNat, by omega⟩
    have hv : rqFault ⟨k, n, e, l, v⟩ = bodyFault (hasS k) ⟨k, n, e, l, v⟩ := by unfold rqFault; rw [if_neg (by simpa using hk)]; rfl
    rw [hv]
    rcases kinds_of (k := k) (by omega) (by omega) with ⟨h, h3, h4⟩ | ⟨h, h3, h4⟩ | ⟨h, rfl⟩ | ⟨h, rfl⟩
    · rw [h]; exact rqFault_0 w A B C D n e l v a b c d k (by omega) (by omega) h h3 h4 hbn hbe
    · rw [h]; exact rqFault_3 w A B C D n e l v a b c d k (by omega) (by omega) h h3 h4
    · rw [h]; exact rqFault_7 w A B C D n e l v a b c d
    · rw [h]; exact rqFault_11 w A B C D n e l v a b c d
  · have hv : rqFault ⟨i, n, e, l, v⟩ = 5 := by unfold rqFault; rw [if_pos hk]
    rw [hv]
    have hi : (decide ((1 : Int) ≤ i) && decide (i ≤ 8)) = false := by
      rw [Bool.and_eq_false_iff, decide_eq_false_iff_not, decide_eq_false_iff_not]; omega
    clear hv hk
    go_enter Tryd.func41, Tryd.ntmps41
    go_wp2_with (go_at_call 83; refine (in_ok _ _ _ _).mono ?_; rintro e1 w1 ⟨rfl, rfl⟩)
    go_ret
    exact ⟨rfl, by repeat' (first | exact Below.refl _ _ | assumption | refine Below.drew ?_ | refine below_drewN ?_ _ | refine Below.alloc ?_ (by first | exact Nat.le_refl _ | omega | (simp; done) | (simp; omega)) _)⟩
end Go.Proofs.YtjgdeeabejoegaaDoor
namespace Go.Proofs.YtjgdeeabejoegaaDoor
open Go.RowKit
set_option linter.unusedVariables false
set_option linter.unusedSimpArgs false

/-- The call returns a request of its own memory. -/
def RetRq (w : World) (r : Rq) (e : Ending) (w' : World) : Prop :=
  ∃ A a B b C c D d, e = .returned (.agg #[.int .i64 r.kind, .slice A r.name.length a, .slice B r.key.length b, .slice C r.last.length c, .slice D r.value.length d]) ∧ Bs (From w.heap.size) w' A r.name ∧ Bs (From w.heap.size) w' B r.key ∧ Bs (From w.heap.size) w' C r.last ∧ Bs (From w.heap.size) w' D r.value ∧ Below w.heap.size w w'
theorem two_rq (w : World) (a b : Obj) : ((w.alloc a).alloc b).heap[w.heap.size]? = some a ∧ ((w.alloc a).alloc b).heap[w.heap.size + 1]? = some b ∧ ((w.alloc a).alloc b).heap.size = w.heap.size + 2 ∧ Below w.heap.size w ((w.alloc a).alloc b) := by
  refine ⟨?_, ?_, by simp, ((Below.refl _ _).alloc (Nat.le_refl _) _).alloc (by simp) _⟩
  · rw [heap_alloc_old _ _ (by simp), heap_alloc_new]
  · have := heap_alloc_new (w.alloc a) b
    simpa using this
set_option maxRecDepth 100000 in
set_option maxHeartbeats 4000000 in
theorem requests_ok (w : World) (A B C D : Option Addr) (r : Rq) (a b c d : Nat) (hA : Bs All w A r.name) (hB : Bs All w B r.key) (hC : Bs All w C r.last) (hD : Bs All w D r.value) (h1 : r.name.length ≤ big) (h2 : r.key.length ≤ big) (h3 : r.last.length ≤ big) (h4 : r.value.length ≤ big) :
    Calls Tryd.prog 12 #[.agg #[.int .i64 r.kind, .slice A r.name.length a, .slice B r.key.length b, .slice C r.last.length c, .slice D r.value.length d]] w (RetRq w r) := by
  have HA := Lib.hid hA
  have HB := Lib.hid hB
  have HC := Lib.hid hC
  have HD := Lib.hid hD
  clear hA hB hC hD
  have Hbox := Lib.hid (show ∀ W, Below (w.heap.size + 2) ((w.alloc (.cells #[.int .i64 r.kind, .slice A r.name.length a, .slice B r.key.length b, .slice C r.last.length c, .slice D r.value.length d] 24)).alloc (.cells #[.int .i64 0, .slice none 0 0, .slice none 0 0, .slice none 0 0, .slice none 0 0] 24)) W → (W.cell? ⟨w.heap.size, 0, none⟩ = some (.int .i64 r.kind) ∧ W.cell? ⟨w.heap.size, 1, none⟩ = some (.slice A r.name.length a) ∧ W.cell? ⟨w.heap.size, 2, none⟩ = some (.slice B r.key.length b) ∧ W.cell? ⟨w.heap.size, 3, none⟩ = some (.slice C r.last.length c) ∧ W.cell? ⟨w.heap.size, 4, none⟩ = some (.slice D r.value.length d)) ∧ (W.cell? ⟨w.heap.size + 1, 0, none⟩ = some (.int .i64 0) ∧ W.cell? ⟨w.heap.size + 1, 1, none⟩ = some (.slice none 0 0) ∧ W.cell? ⟨w.heap.size + 1, 2, none⟩ = some (.slice none 0 0) ∧ W.cell? ⟨w.heap.size + 1, 3, none⟩ = some (.slice none 0 0) ∧ W.cell? ⟨w.heap.size + 1, 4, none⟩ = some (.slice none 0 0)) ∧ (W.frozen? ⟨w.heap.size + 1, 0, none⟩ = false ∧ W.frozen? ⟨w.heap.size + 1, 1, none⟩ = false ∧ W.frozen? ⟨w.heap.size + 1, 2, none⟩ = false ∧ W.frozen? ⟨w.heap.size + 1, 3, none⟩ = false ∧ W.frozen? ⟨w.heap.size + 1, 4, none⟩ = false) ∧ Below w.heap.size w W ∧ w.heap.size + 2 ≤ W.heap.size from fun W hW => by
    obtain ⟨hx, hy, hsz, hbl⟩ := two_rq w (.cells #[.int .i64 r.kind, .slice A r.name.length a, .slice B r.key.length b, .slice C r.last.length c, .slice D r.value.length d] 24) (.cells #[.int .i64 0, .slice none 0 0, .slice none 0 0, .slice none 0 0, .slice none 0 0] 24)
    obtain ⟨q, _⟩ := box5 ((hW.block w.heap.size (by omega)).trans hx)
    obtain ⟨q', f'⟩ := box5 ((hW.block (w.heap.size + 1) (by omega)).trans hy)
    have h := hW.size
    exact ⟨q, q', f', hbl.trans (hW.mono (by omega)), by omega⟩)
  go_enter Tryd.func12, Tryd.ntmps12
  go_wp2_with fail
  go_region_held3 (fun w' => w'.cell? ⟨w.heap.size, 0, none⟩ = some (.int .i64 r.kind) ∧ w'.cell? ⟨w.heap.size, 1, none⟩ = some (.slice A r.name.length a) ∧ w'.cell? ⟨w.heap.size, 2, none⟩ = some (.slice B r.key.length b) ∧ w'.cell? ⟨w.heap.size, 3, none⟩ = some (.slice C r.last.length c) ∧ w'.cell? ⟨w.heap.size, 4, none⟩ = some (.slice D r.value.length d))
    (first
      | go_keep
      | (refine ⟨?_, ?_, ?_, ?_, ?_⟩ <;> assumption))
    (first
      | (go_at_call 18; (with_reducible refine (octets_ok _ A r.name a ?ha h1).mono ?_); (case ha => (refine HA.out.bbelow ?_; repeat' (first | exact Below.refl _ _ | assumption | refine Below.drew ?_ | refine below_drewN ?_ _ | refine Below.alloc ?_ (by first | exact Nat.le_refl _ | omega | (simp; done) | (simp; omega)) _))); rintro e w1 ⟨A1, a1, rfl, hs1, hb1'⟩; have hb1 : Below (w.heap.size + 2) ((w.alloc (.cells #[.int .i64 r.kind, .slice A r.name.length a, .slice B r.key.length b, .slice C r.last.length c, .slice D r.value.length d] 24)).alloc (.cells #[.int .i64 0, .slice none 0 0, .slice none 0 0, .slice none 0 0, .slice none 0 0] 24)) w1 := Below.next (by repeat' (first | exact Below.refl _ _ | assumption | refine Below.drew ?_ | refine below_drewN ?_ _ | refine Below.setCell ?_ (by first | (simp; done) | omega | (simp; omega)) _ | refine Below.alloc ?_ (by first | exact Nat.le_refl _ | omega | (simp; done) | (simp; omega)) _)) hb1' (by simp); obtain ⟨⟨qa1, qb1, qc1, qd1, qe1⟩, ⟨ra1, rb1, rc1, rd1, re1⟩, ⟨fa1, fb1, fc1, fd1, fe1⟩, hw1, hz1⟩ := Hbox.out w1 hb1)
      | (go_at_call 18; (with_reducible refine (octets_ok _ B r.key b ?ha h2).mono ?_); (case ha => exact HB.out.bbelow hw1); rintro e w2 ⟨A2, a2, rfl, hs2, hb2'⟩; have hb2 : Below (w.heap.size + 2) ((w.alloc (.cells #[.int .i64 r.kind, .slice A r.name.length a, .slice B r.key.length b, .slice C r.last.length c, .slice D r.value.length d] 24)).alloc (.cells #[.int .i64 0, .slice none 0 0, .slice none 0 0, .slice none 0 0, .slice none 0 0] 24)) w2 := hb1.next hb2' hz1; obtain ⟨⟨qa2, qb2, qc2, qd2, qe2⟩, ⟨ra2, rb2, rc2, rd2, re2⟩, ⟨fa2, fb2, fc2, fd2, fe2⟩, hw2, hz2⟩ := Hbox.out w2 hb2)
      | (go_at_call 18; (with_reducible refine (octets_ok _ C r.last c ?ha h3).mono ?_); (case ha => exact HC.out.bbelow hw2); rintro e w3 ⟨A3, a3, rfl, hs3, hb3'⟩; have hb3 : Below (w.heap.size + 2) ((w.alloc (.cells #[.int .i64 r.kind, .slice A r.name.length a, .slice B r.key.length b, .slice C r.last.length c, .slice D r.value.length d] 24)).alloc (.cells #[.int .i64 0, .slice none 0 0, .slice none 0 0, .slice none 0 0, .slice none 0 0] 24)) w3 := hb2.next hb3' hz2; obtain ⟨⟨qa3, qb3, qc3, qd3, qe3⟩, ⟨ra3, rb3, rc3, rd3, re3⟩, ⟨fa3, fb3, fc3, fd3, fe3⟩, hw3, hz3⟩ := Hbox.out w3 hb3)
      | (go_at_call 18; (with_reducible refine (octets_ok _ D r.value d ?ha h4).mono ?_); (case ha => exact HD.out.bbelow hw3); rintro e w4 ⟨A4, a4, rfl, hs4, hb4'⟩; have hb4 : Below (w.heap.size + 2) ((w.alloc (.cells #[.int .i64 r.kind, .slice A r.name.length a, .slice B r.key.length b, .slice C r.last.length c, .slice D r.value.length d] 24)).alloc (.cells #[.int .i64 0, .slice none 0 0, .slice none 0 0, .slice none 0 0, .slice none 0 0] 24)) w4 := hb3.next hb4' hz3; obtain ⟨⟨qa4, qb4, qc4, qd4, qe4⟩, ⟨ra4, rb4, rc4, rd4, re4⟩, ⟨fa4, fb4, fc4, fd4, fe4⟩, hw4, hz4⟩ := Hbox.out w4 hb4))
  all_goals
    go_wp2
    refine bodyPost_ret (v := .agg #[.int .i64 r.kind, .slice A1 r.name.length a1, .slice A2 r.key.length a2, .slice A3 r.last.length a3, .slice A4 r.value.length a4]) (by simp [results, Tryd.results12, go_sem, ra4, rb4, rc4, rd4, re4]) rfl ⟨A1, a1, A2, a2, A3, a3, A4, a4, rfl, ?_, ?_, ?_, ?_, ?_⟩
    · exact (((((hs1.blo (m := w.heap.size + 2) (by first | (simp; done) | omega | (simp; omega))).bbelow hb2').bbelow hb3').bbelow hb4').bsame ((((((Same.refl _ _).setCell (fun hq => by simp only [From] at hq; omega) _).setCell (fun hq => by simp only [From] at hq; omega) _).setCell (fun hq => by simp only [From] at hq; omega) _).setCell (fun hq => by simp only [From] at hq; omega) _).setCell (fun hq => by simp only [From] at hq; omega) _)).blo (by omega)
    · exact ((((hs2.blo (m := w.heap.size + 2) hz1).bbelow hb3').bbelow hb4').bsame ((((((Same.refl _ _).setCell (fun hq => by simp only [From] at hq; omega) _).setCell (fun hq => by simp only [From] at hq; omega) _).setCell (fun hq => by simp only [From] at hq; omega) _).setCell (fun hq => by simp only [From] at hq; omega) _).setCell (fun hq => by simp only [From] at hq; omega) _)).blo (by omega)
    · exact (((hs3.blo (m := w.heap.size + 2) hz2).bbelow hb4').bsame ((((((Same.refl _ _).setCell (fun hq => by simp only [From] at hq; omega) _).setCell (fun hq => by simp only [From] at hq; omega) _).setCell (fun hq => by simp only [From] at hq; omega) _).setCell (fun hq => by simp only [From] at hq; omega) _).setCell (fun hq => by simp only [From] at hq; omega) _)).blo (by omega)
    · exact ((hs4.blo (m := w.heap.size + 2) hz3).bsame ((((((Same.refl _ _).setCell (fun hq => by simp only [From] at hq; omega) _).setCell (fun hq => by simp only [From] at hq; omega) _).setCell (fun hq => by simp only [From] at hq; omega) _).setCell (fun hq => by simp only [From] at hq; omega) _).setCell (fun hq => by simp only [From] at hq; omega) _)).blo (by omega)
    · exact (Below.setCell (Below.setCell (Below.setCell (Below.setCell (Below.setCell hw4 (by simp only []; omega) _) (by simp only []; omega) _) (by simp only []; omega) _) (by simp only []; omega) _) (by simp only []; omega) _)
end Go.Proofs.YtjgdeeabejoegaaDoor
namespace Go.Proofs.YtjgdeeabejoegaaDoor
open Go.RowKit
set_option linter.unusedVariables false
set_option linter.unusedSimpArgs false

theorem has_cases {k : Nat} (h1 : 1 ≤ k) (h8 : k ≤ 8) : hasS k = 0 ∨ hasS k = 3 ∨ hasS k = 7 ∨ hasS k = 11 := by
  have : k = 1 ∨ k = 2 ∨ k = 3 ∨ k = 4 ∨ k = 5 ∨ k = 6 ∨ k = 7 ∨ k = 8 := by omega
  rcases this with rfl | rfl | rfl | rfl | rfl | rfl | rfl | rfl <;> decide
/-- The table 'has' lies where it should. -/
def HasAt (w : World) : Prop := ∀ k, k < 9 → w.cell? ⟨0, k, none⟩ = some (.int .i64 ((hasS k : Nat) : Int))
theorem HasAt.below {w w' : World} (h : HasAt w) (hb : Below w.heap.size w w') : HasAt w' := fun k hk => (hb.cell (World.block_lt_of_cell? w _ (h k hk))).trans (h k hk)
theorem names_0 (r : Rq) : namesFault 0 r = 0 := rfl
theorem names_3 (r : Rq) : namesFault 3 r = if nameFault r.name ≠ 0 then nameFault r.name else keyFault r.key := by
  by_cases h : keyFault r.key = 0 <;> simp [namesFault, h]
theorem names_7 (r : Rq) : namesFault 7 r = if nameFault r.name ≠ 0 then nameFault r.name else if keyFault r.key ≠ 0 then keyFault r.key else keyFault r.last := by
  simp [namesFault]
theorem names_11 (r : Rq) : namesFault 11 r = if nameFault r.name ≠ 0 then nameFault r.name else keyFault r.key := by
  by_cases h : keyFault r.key = 0 <;> simp [namesFault, h]
theorem body_names {h : Nat} {r : Rq} (hn : namesFault h r ≠ 0) : bodyFault h r = namesFault h r := by unfold bodyFault; rw [if_pos hn]
theorem body_value {h : Nat} {r : Rq} (hn : namesFault h r = 0) (hv : 32 < r.value.length) : bodyFault h r = 1 := by unfold bodyFault; rw [if_neg (by simp [hn]), if_pos hv]
theorem body_parts {h : Nat} {r : Rq} (hn : namesFault h r = 0) (hv : r.value.length ≤ 32) : bodyFault h r = partsFault h r := by unfold bodyFault; rw [if_neg (by simp [hn]), if_neg (by omega)]

set_option maxRecDepth 100000 in
set_option maxHeartbeats 4000000 in
theorem wireCheck_0 (w : World) (hT : HasAt w) (A B C D : Option Addr) (n e l v : List UInt8) (a b c d k : Nat) (hk1 : 1 ≤ k) (hk8 : k ≤ 8) (hh : hasS k = 0) :
    Calls Tryd.prog 39 #[.agg #[.int .i64 k, .slice A n.length a, .slice B e.length b, .slice C l.length c, .slice D v.length d]] w (RetV w (.int .i64 (bodyFault 0 ⟨k, n, e, l, v⟩))) := by
  have hcell : (w.alloc (.cells #[.int .i64 k, .slice A n.length a, .slice B e.length b, .slice C l.length c, .slice D v.length d] 24)).cell? ⟨0, k, none⟩ = some (.int .i64 0) := by
    have h1 := hT k (by omega)
    rw [hh] at h1
    exact (((Below.refl w.heap.size w).alloc (Nat.le_refl _) _).cell (World.block_lt_of_cell? w _ (hT k (by omega)))).trans h1
  have hka : ¬ (k : Int) < 1 := by omega
  have hkb : ¬ (8 : Int) < (k : Int) := by omega
  have hkc : (0 : Int) ≤ (k : Int) := by omega
  have hkd : (k : Int) < 9 := by omega
  have hke : k ≠ 0 := by omega
  have hkf : k < 9 := by omega
  have c0_1 : bits .and .i64 0 1 = 0 := by decide
  have c0_4 : bits .and .i64 0 4 = 0 := by decide
  have c0_1 : bits .and .i64 0 1 = 0 := by decide
  have c0_1 : bits .and .i64 0 1 = 0 := by decide
  have c0_1 : bits .and .i64 0 1 = 0 := by decide
  have x0 : ∀ W : World, (Instr.index 106 (.agg #[.slice A n.length a, .slice B e.length b, .slice C l.length c, .slice D v.length d]) (.int .i64 0)).run Tryd.prog W = .ok (.slice A n.length a) W := fun _ => by kernel_rfl
  have x1 : ∀ W : World, (Instr.index 106 (.agg #[.slice A n.length a, .slice B e.length b, .slice C l.length c, .slice D v.length d]) (.int .i64 1)).run Tryd.prog W = .ok (.slice B e.length b) W := fun _ => by kernel_rfl
  have x2 : ∀ W : World, (Instr.index 106 (.agg #[.slice A n.length a, .slice B e.length b, .slice C l.length c, .slice D v.length d]) (.int .i64 2)).run Tryd.prog W = .ok (.slice C l.length c) W := fun _ => by kernel_rfl
  have x3 : ∀ W : World, (Instr.index 106 (.agg #[.slice A n.length a, .slice B e.length b, .slice C l.length c, .slice D v.length d]) (.int .i64 3)).run Tryd.prog W = .ok (.slice D v.length d) W := fun _ => by kernel_rfl
  clear hT hh
  by_cases hv : 32 < v.length
  · have Hv := Lib.hid (body_value (r := ⟨k, n, e, l, v⟩) (names_0 _) hv)
    have hv' : decide ((32 : Int) < (v.length : Int)) = true := decide_eq_true (by omega)
    go_enter Tryd.func39, Tryd.ntmps39
    go_wp2_with (first
        | (go_at_call 74; refine (forestName_ok _ A n a).mono ?_; rintro e1 w1 ⟨rfl, rfl⟩)
        | (go_at_call 75; (with_reducible refine (pathCheck_ok _ B e b).mono ?_); rintro e1 w1 ⟨rfl, rfl⟩)
        | (go_at_call 75; (with_reducible refine (pathCheck_ok _ C l c).mono ?_); rintro e1 w1 ⟨rfl, rfl⟩))
    go_ret
    exact ⟨ret_int (by rw [Hv.out]), by repeat' (first | exact Below.refl _ _ | assumption | refine Below.drew ?_ | refine below_drewN ?_ _ | refine Below.alloc ?_ (by first | exact Nat.le_refl _ | omega | (simp; done) | (simp; omega)) _)⟩
  · have Hv := Lib.hid (body_parts (r := ⟨k, n, e, l, v⟩) (names_0 _) (by show v.length ≤ 32; omega))
    have hv' : decide ((32 : Int) < (v.length : Int)) = false := decide_eq_false (by omega)
    go_enter Tryd.func39, Tryd.ntmps39
    go_wp2_with (first
        | (go_at_call 74; refine (forestName_ok _ A n a).mono ?_; rintro e1 w1 ⟨rfl, rfl⟩)
        | (go_at_call 75; (with_reducible refine (pathCheck_ok _ B e b).mono ?_); rintro e1 w1 ⟨rfl, rfl⟩)
        | (go_at_call 75; (with_reducible refine (pathCheck_ok _ C l c).mono ?_); rintro e1 w1 ⟨rfl, rfl⟩))
    go_loopw [58] (fun i wr => ∃ j : Nat, j ≤ 4 ∧ i = .int .i64 j ∧ firstBad (partF 0 ⟨k, n, e, l, v⟩) (4 - j) j = partsFault 0 ⟨k, n, e, l, v⟩ ∧ Below w.heap.size w wr) (fun i _ => 4 - (intOf i).toNat)
    case atStart => exact ⟨0, by omega, rfl, rfl, (by repeat' (first | exact Below.refl _ _ | assumption | refine Below.drew ?_ | refine below_drewN ?_ _ | refine Below.alloc ?_ (by first | exact Nat.le_refl _ | omega | (simp; done) | (simp; omega)) _))⟩
    case round =>
      obtain ⟨j, hj, rfl, hval, hbel⟩ := hrel
      have Hval := Lib.hid hval
      have Hbel := Lib.hid hbel
      clear hval hbel
      rcases (by omega : j = 0 ∨ j = 1 ∨ j = 2 ∨ j = 3 ∨ j = 4) with rfl | rfl | rfl | rfl | rfl
      · by_cases hp : 0 < n.length
        · have hp' : decide ((0 : Int) < (n.length : Int)) = true := decide_eq_true (by omega)
          go_wp2
          go_ret
          exact ⟨ret_int (by rw [Hv.out, ← Hval.out, part_bad (h := 0) (r := ⟨k, n, e, l, v⟩) (j := 0) (by decide) (by decide) (by exact hp)]), Hbel.out⟩
        · have hp' : decide ((0 : Int) < (n.length : Int)) = false := decide_eq_false (by omega)
          have Hp := Lib.hid hp
          go_wp2
          go_roundw
          case rel => exact ⟨1, by omega, by go_num, by rw [← Hval.out, part_none (h := 0) (r := ⟨k, n, e, l, v⟩) (j := 0) (by decide) (by exact Hp.out)], Hbel.out⟩
          case measure => simp [intOf]
      · by_cases hp : 0 < e.length
        · have hp' : decide ((0 : Int) < (e.length : Int)) = true := decide_eq_true (by omega)
          go_wp2
          go_ret
          exact ⟨ret_int (by rw [Hv.out, ← Hval.out, part_bad (h := 0) (r := ⟨k, n, e, l, v⟩) (j := 1) (by decide) (by decide) (by exact hp)]), Hbel.out⟩
        · have hp' : decide ((0 : Int) < (e.length : Int)) = false := decide_eq_false (by omega)
          have Hp := Lib.hid hp
          go_wp2
          go_roundw
          case rel => exact ⟨2, by omega, by go_num, by rw [← Hval.out, part_none (h := 0) (r := ⟨k, n, e, l, v⟩) (j := 1) (by decide) (by exact Hp.out)], Hbel.out⟩
          case measure => simp [intOf]
      · by_cases hp : 0 < l.length
        · have hp' : decide ((0 : Int) < (l.length : Int)) = true := decide_eq_true (by omega)
          go_wp2
          go_ret
          exact ⟨ret_int (by rw [Hv.out, ← Hval.out, part_bad (h := 0) (r := ⟨k, n, e, l, v⟩) (j := 2) (by decide) (by decide) (by exact hp)]), Hbel.out⟩
        · have hp' : decide ((0 : Int) < (l.length : Int)) = false := decide_eq_false (by omega)
          have Hp := Lib.hid hp
          go_wp2
          go_roundw
          case rel => exact ⟨3, by omega, by go_num, by rw [← Hval.out, part_none (h := 0) (r := ⟨k, n, e, l, v⟩) (j := 2) (by decide) (by exact Hp.out)], Hbel.out⟩
          case measure => simp [intOf]
      · by_cases hp : 0 < v.length
        · have hp' : decide ((0 : Int) < (v.length : Int)) = true := decide_eq_true (by omega)
          go_wp2
          go_ret
          exact ⟨ret_int (by rw [Hv.out, ← Hval.out, part_bad (h := 0) (r := ⟨k, n, e, l, v⟩) (j := 3) (by decide) (by decide) (by exact hp)]), Hbel.out⟩
        · have hp' : decide ((0 : Int) < (v.length : Int)) = false := decide_eq_false (by omega)
          have Hp := Lib.hid hp
          go_wp2
          go_roundw
          case rel => exact ⟨4, by omega, by go_num, by rw [← Hval.out, part_none (h := 0) (r := ⟨k, n, e, l, v⟩) (j := 3) (by decide) (by exact Hp.out)], Hbel.out⟩
          case measure => simp [intOf]
      · go_wp2
        go_ret
        exact ⟨ret_int (by rw [Hv.out, ← Hval.out]; rfl), Hbel.out⟩
set_option maxRecDepth 100000 in
set_option maxHeartbeats 4000000 in
theorem wireCheck_3 (w : World) (hT : HasAt w) (A B C D : Option Addr) (n e l v : List UInt8) (a b c d k : Nat) (hk1 : 1 ≤ k) (hk8 : k ≤ 8) (hh : hasS k = 3) :
    Calls Tryd.prog 39 #[.agg #[.int .i64 k, .slice A n.length a, .slice B e.length b, .slice C l.length c, .slice D v.length d]] w (RetV w (.int .i64 (bodyFault 3 ⟨k, n, e, l, v⟩))) := by
  have hcell : (w.alloc (.cells #[.int .i64 k, .slice A n.length a, .slice B e.length b, .slice C l.length c, .slice D v.length d] 24)).cell? ⟨0, k, none⟩ = some (.int .i64 3) := by
    have h1 := hT k (by omega)
    rw [hh] at h1
    exact (((Below.refl w.heap.size w).alloc (Nat.le_refl _) _).cell (World.block_lt_of_cell? w _ (hT k (by omega)))).trans h1
  have hka : ¬ (k : Int) < 1 := by omega
  have hkb : ¬ (8 : Int) < (k : Int) := by omega
  have hkc : (0 : Int) ≤ (k : Int) := by omega
  have hkd : (k : Int) < 9 := by omega
  have hke : k ≠ 0 := by omega
  have hkf : k < 9 := by omega
  have c3_1 : bits .and .i64 3 1 = 1 := by decide
  have c3_4 : bits .and .i64 3 4 = 0 := by decide
  have c1_1 : bits .and .i64 1 1 = 1 := by decide
  have c0_1 : bits .and .i64 0 1 = 0 := by decide
  have c0_1 : bits .and .i64 0 1 = 0 := by decide
  have x0 : ∀ W : World, (Instr.index 106 (.agg #[.slice A n.length a, .slice B e.length b, .slice C l.length c, .slice D v.length d]) (.int .i64 0)).run Tryd.prog W = .ok (.slice A n.length a) W := fun _ => by kernel_rfl
  have x1 : ∀ W : World, (Instr.index 106 (.agg #[.slice A n.length a, .slice B e.length b, .slice C l.length c, .slice D v.length d]) (.int .i64 1)).run Tryd.prog W = .ok (.slice B e.length b) W := fun _ => by kernel_rfl
  have x2 : ∀ W : World, (Instr.index 106 (.agg #[.slice A n.length a, .slice B e.length b, .slice C l.length c, .slice D v.length d]) (.int .i64 2)).run Tryd.prog W = .ok (.slice C l.length c) W := fun _ => by kernel_rfl
  have x3 : ∀ W : World, (Instr.index 106 (.agg #[.slice A n.length a, .slice B e.length b, .slice C l.length c, .slice D v.length d]) (.int .i64 3)).run Tryd.prog W = .ok (.slice D v.length d) W := fun _ => by kernel_rfl
  clear hT hh
  by_cases hn : nameFault n = 0
  · have Hn := Lib.hid hn
    by_cases hk : keyFault e = 0
    · have Hk := Lib.hid hk
      have Hnm := Lib.hid (show namesFault 3 ⟨k, n, e, l, v⟩ = 0 by rw [names_3, if_neg (by simpa using hn)]; exact hk)
      clear hn hk
      by_cases hv : 32 < v.length
      · have Hv := Lib.hid (body_value (r := ⟨k, n, e, l, v⟩) Hnm.out hv)
        have hv' : decide ((32 : Int) < (v.length : Int)) = true := decide_eq_true (by omega)
        go_enter Tryd.func39, Tryd.ntmps39
        go_wp2_with (first
            | (go_at_call 74; refine (forestName_ok _ A n a).mono ?_; rintro e1 w1 ⟨rfl, rfl⟩; rw [Hn.out])
            | (go_at_call 75; (with_reducible refine (pathCheck_ok _ B e b).mono ?_); rintro e1 w1 ⟨rfl, rfl⟩; rw [Hk.out])
            | (go_at_call 75; (with_reducible refine (pathCheck_ok _ C l c).mono ?_); rintro e1 w1 ⟨rfl, rfl⟩))
        go_ret
        exact ⟨ret_int (by rw [Hv.out]), by repeat' (first | exact Below.refl _ _ | assumption | refine Below.drew ?_ | refine below_drewN ?_ _ | refine Below.alloc ?_ (by first | exact Nat.le_refl _ | omega | (simp; done) | (simp; omega)) _)⟩
      · have Hv := Lib.hid (body_parts (r := ⟨k, n, e, l, v⟩) Hnm.out (by show v.length ≤ 32; omega))
        have hv' : decide ((32 : Int) < (v.length : Int)) = false := decide_eq_false (by omega)
        go_enter Tryd.func39, Tryd.ntmps39
        go_wp2_with (first
            | (go_at_call 74; refine (forestName_ok _ A n a).mono ?_; rintro e1 w1 ⟨rfl, rfl⟩; rw [Hn.out])
            | (go_at_call 75; (with_reducible refine (pathCheck_ok _ B e b).mono ?_); rintro e1 w1 ⟨rfl, rfl⟩; rw [Hk.out])
            | (go_at_call 75; (with_reducible refine (pathCheck_ok _ C l c).mono ?_); rintro e1 w1 ⟨rfl, rfl⟩))
        go_loopw [58] (fun i wr => ∃ j : Nat, j ≤ 4 ∧ i = .int .i64 j ∧ firstBad (partF 3 ⟨k, n, e, l, v⟩) (4 - j) j = partsFault 3 ⟨k, n, e, l, v⟩ ∧ Below w.heap.size w wr) (fun i _ => 4 - (intOf i).toNat)
        case atStart => exact ⟨0, by omega, rfl, rfl, (by repeat' (first | exact Below.refl _ _ | assumption | refine Below.drew ?_ | refine below_drewN ?_ _ | refine Below.alloc ?_ (by first | exact Nat.le_refl _ | omega | (simp; done) | (simp; omega)) _))⟩
        case round =>
          obtain ⟨j, hj, rfl, hval, hbel⟩ := hrel
          have Hval := Lib.hid hval
          have Hbel := Lib.hid hbel
          clear hval hbel
          rcases (by omega : j = 0 ∨ j = 1 ∨ j = 2 ∨ j = 3 ∨ j = 4) with rfl | rfl | rfl | rfl | rfl
          · go_wp2
            go_roundw
            case rel => exact ⟨1, by omega, by go_num, by rw [← Hval.out, part_has (h := 3) (r := ⟨k, n, e, l, v⟩) (j := 0) (by decide) (by decide)], Hbel.out⟩
            case measure => simp [intOf]
          · go_wp2
            go_roundw
            case rel => exact ⟨2, by omega, by go_num, by rw [← Hval.out, part_has (h := 3) (r := ⟨k, n, e, l, v⟩) (j := 1) (by decide) (by decide)], Hbel.out⟩
            case measure => simp [intOf]
          · by_cases hp : 0 < l.length
            · have hp' : decide ((0 : Int) < (l.length : Int)) = true := decide_eq_true (by omega)
              go_wp2
              go_ret
              exact ⟨ret_int (by rw [Hv.out, ← Hval.out, part_bad (h := 3) (r := ⟨k, n, e, l, v⟩) (j := 2) (by decide) (by decide) (by exact hp)]), Hbel.out⟩
            · have hp' : decide ((0 : Int) < (l.length : Int)) = false := decide_eq_false (by omega)
              have Hp := Lib.hid hp
              go_wp2
              go_roundw
              case rel => exact ⟨3, by omega, by go_num, by rw [← Hval.out, part_none (h := 3) (r := ⟨k, n, e, l, v⟩) (j := 2) (by decide) (by exact Hp.out)], Hbel.out⟩
              case measure => simp [intOf]
          · by_cases hp : 0 < v.length
            · have hp' : decide ((0 : Int) < (v.length : Int)) = true := decide_eq_true (by omega)
              go_wp2
              go_ret
              exact ⟨ret_int (by rw [Hv.out, ← Hval.out, part_bad (h := 3) (r := ⟨k, n, e, l, v⟩) (j := 3) (by decide) (by decide) (by exact hp)]), Hbel.out⟩
            · have hp' : decide ((0 : Int) < (v.length : Int)) = false := decide_eq_false (by omega)
              have Hp := Lib.hid hp
              go_wp2
              go_roundw
              case rel => exact ⟨4, by omega, by go_num, by rw [← Hval.out, part_none (h := 3) (r := ⟨k, n, e, l, v⟩) (j := 3) (by decide) (by exact Hp.out)], Hbel.out⟩
              case measure => simp [intOf]
          · go_wp2
            go_ret
            exact ⟨ret_int (by rw [Hv.out, ← Hval.out]; rfl), Hbel.out⟩
    · have hf : namesFault 3 ⟨k, n, e, l, v⟩ = keyFault e := by rw [names_3, if_neg (by simpa using hn)]
      have Hv := Lib.hid ((body_names (r := ⟨k, n, e, l, v⟩) (h := 3) (by rw [hf]; exact hk)).trans hf)
      have hk' : (keyFault e != 0) = true := by simpa using hk
      clear hn hk hf
      go_enter Tryd.func39, Tryd.ntmps39
      go_wp2_with (first
          | (go_at_call 74; refine (forestName_ok _ A n a).mono ?_; rintro e1 w1 ⟨rfl, rfl⟩; rw [Hn.out])
          | (go_at_call 75; (with_reducible refine (pathCheck_ok _ B e b).mono ?_); rintro e1 w1 ⟨rfl, rfl⟩)
          | (go_at_call 75; (with_reducible refine (pathCheck_ok _ C l c).mono ?_); rintro e1 w1 ⟨rfl, rfl⟩))
      go_ret
      exact ⟨ret_int (by rw [Hv.out]), by repeat' (first | exact Below.refl _ _ | assumption | refine Below.drew ?_ | refine below_drewN ?_ _ | refine Below.alloc ?_ (by first | exact Nat.le_refl _ | omega | (simp; done) | (simp; omega)) _)⟩
  · have hf : namesFault 3 ⟨k, n, e, l, v⟩ = nameFault n := by rw [names_3, if_pos (by exact hn)]
    have Hv := Lib.hid ((body_names (r := ⟨k, n, e, l, v⟩) (h := 3) (by rw [hf]; exact hn)).trans hf)
    have hn' : (nameFault n != 0) = true := by simpa using hn
    clear hn hf
    go_enter Tryd.func39, Tryd.ntmps39
    go_wp2_with (first
        | (go_at_call 74; refine (forestName_ok _ A n a).mono ?_; rintro e1 w1 ⟨rfl, rfl⟩)
        | (go_at_call 75; (with_reducible refine (pathCheck_ok _ B e b).mono ?_); rintro e1 w1 ⟨rfl, rfl⟩)
        | (go_at_call 75; (with_reducible refine (pathCheck_ok _ C l c).mono ?_); rintro e1 w1 ⟨rfl, rfl⟩))
    go_ret
    exact ⟨ret_int (by rw [Hv.out]), by repeat' (first | exact Below.refl _ _ | assumption | refine Below.drew ?_ | refine below_drewN ?_ _ | refine Below.alloc ?_ (by first | exact Nat.le_refl _ | omega | (simp; done) | (simp; omega)) _)⟩
set_option maxRecDepth 100000 in
set_option maxHeartbeats 4000000 in
theorem wireCheck_7 (w : World) (hT : HasAt w) (A B C D : Option Addr) (n e l v : List UInt8) (a b c d k : Nat) (hk1 : 1 ≤ k) (hk8 : k ≤ 8) (hh : hasS k = 7) :
    Calls Tryd.prog 39 #[.agg #[.int .i64 k, .slice A n.length a, .slice B e.length b, .slice C l.length c, .slice D v.length d]] w (RetV w (.int .i64 (bodyFault 7 ⟨k, n, e, l, v⟩))) := by
  have hcell : (w.alloc (.cells #[.int .i64 k, .slice A n.length a, .slice B e.length b, .slice C l.length c, .slice D v.length d] 24)).cell? ⟨0, k, none⟩ = some (.int .i64 7) := by
    have h1 := hT k (by omega)
    rw [hh] at h1
    exact (((Below.refl w.heap.size w).alloc (Nat.le_refl _) _).cell (World.block_lt_of_cell? w _ (hT k (by omega)))).trans h1
  have hka : ¬ (k : Int) < 1 := by omega
  have hkb : ¬ (8 : Int) < (k : Int) := by omega
  have hkc : (0 : Int) ≤ (k : Int) := by omega
  have hkd : (k : Int) < 9 := by omega
  have hke : k ≠ 0 := by omega
  have hkf : k < 9 := by omega
  have c7_1 : bits .and .i64 7 1 = 1 := by decide
  have c7_4 : bits .and .i64 7 4 = 4 := by decide
  have c3_1 : bits .and .i64 3 1 = 1 := by decide
  have c1_1 : bits .and .i64 1 1 = 1 := by decide
  have c0_1 : bits .and .i64 0 1 = 0 := by decide
  have x0 : ∀ W : World, (Instr.index 106 (.agg #[.slice A n.length a, .slice B e.length b, .slice C l.length c, .slice D v.length d]) (.int .i64 0)).run Tryd.prog W = .ok (.slice A n.length a) W := fun _ => by kernel_rfl
  have x1 : ∀ W : World, (Instr.index 106 (.agg #[.slice A n.length a, .slice B e.length b, .slice C l.length c, .slice D v.length d]) (.int .i64 1)).run Tryd.prog W = .ok (.slice B e.length b) W := fun _ => by kernel_rfl
  have x2 : ∀ W : World, (Instr.index 106 (.agg #[.slice A n.length a, .slice B e.length b, .slice C l.length c, .slice D v.length d]) (.int .i64 2)).run Tryd.prog W = .ok (.slice C l.length c) W := fun _ => by kernel_rfl
  have x3 : ∀ W : World, (Instr.index 106 (.agg #[.slice A n.length a, .slice B e.length b, .slice C l.length c, .slice D v.length d]) (.int .i64 3)).run Tryd.prog W = .ok (.slice D v.length d) W := fun _ => by kernel_rfl
  clear hT hh
  by_cases hn : nameFault n = 0
  · have Hn := Lib.hid hn
    by_cases hk : keyFault e = 0
    · have Hk := Lib.hid hk
      by_cases hl : keyFault l = 0
      · have Hl := Lib.hid hl
        have Hnm := Lib.hid (show namesFault 7 ⟨k, n, e, l, v⟩ = 0 by rw [names_7, if_neg (by simpa using hn), if_neg (by simpa using hk)]; exact hl)
        clear hn hk hl
        by_cases hv : 32 < v.length
        · have Hv := Lib.hid (body_value (r := ⟨k, n, e, l, v⟩) Hnm.out hv)
          have hv' : decide ((32 : Int) < (v.length : Int)) = true := decide_eq_true (by omega)
          go_enter Tryd.func39, Tryd.ntmps39
          go_wp2_with (first
              | (go_at_call 74; refine (forestName_ok _ A n a).mono ?_; rintro e1 w1 ⟨rfl, rfl⟩; rw [Hn.out])
              | (go_at_call 75; (with_reducible refine (pathCheck_ok _ B e b).mono ?_); rintro e1 w1 ⟨rfl, rfl⟩; rw [Hk.out])
              | (go_at_call 75; (with_reducible refine (pathCheck_ok _ C l c).mono ?_); rintro e1 w1 ⟨rfl, rfl⟩; rw [Hl.out]))
          go_ret
          exact ⟨ret_int (by rw [Hv.out]), by repeat' (first | exact Below.refl _ _ | assumption | refine Below.drew ?_ | refine below_drewN ?_ _ | refine Below.alloc ?_ (by first | exact Nat.le_refl _ | omega | (simp; done) | (simp; omega)) _)⟩
        · have Hv := Lib.hid (body_parts (r := ⟨k, n, e, l, v⟩) Hnm.out (by show v.length ≤ 32; omega))
          have hv' : decide ((32 : Int) < (v.length : Int)) = false := decide_eq_false (by omega)
          go_enter Tryd.func39, Tryd.ntmps39
          go_wp2_with (first
              | (go_at_call 74; refine (forestName_ok _ A n a).mono ?_; rintro e1 w1 ⟨rfl, rfl⟩; rw [Hn.out])
              | (go_at_call 75; (with_reducible refine (pathCheck_ok _ B e b).mono ?_); rintro e1 w1 ⟨rfl, rfl⟩; rw [Hk.out])
              | (go_at_call 75; (with_reducible refine (pathCheck_ok _ C l c).mono ?_); rintro e1 w1 ⟨rfl, rfl⟩; rw [Hl.out]))
          go_loopw [58] (fun i wr => ∃ j : Nat, j ≤ 4 ∧ i = .int .i64 j ∧ firstBad (partF 7 ⟨k, n, e, l, v⟩) (4 - j) j = partsFault 7 ⟨k, n, e, l, v⟩ ∧ Below w.heap.size w wr) (fun i _ => 4 - (intOf i).toNat)
          case atStart => exact ⟨0, by omega, rfl, rfl, (by repeat' (first | exact Below.refl _ _ | assumption | refine Below.drew ?_ | refine below_drewN ?_ _ | refine Below.alloc ?_ (by first | exact Nat.le_refl _ | omega | (simp; done) | (simp; omega)) _))⟩
          case round =>
            obtain ⟨j, hj, rfl, hval, hbel⟩ := hrel
            have Hval := Lib.hid hval
            have Hbel := Lib.hid hbel
            clear hval hbel
            rcases (by omega : j = 0 ∨ j = 1 ∨ j = 2 ∨ j = 3 ∨ j = 4) with rfl | rfl | rfl | rfl | rfl
            · go_wp2
              go_roundw
              case rel => exact ⟨1, by omega, by go_num, by rw [← Hval.out, part_has (h := 7) (r := ⟨k, n, e, l, v⟩) (j := 0) (by decide) (by decide)], Hbel.out⟩
              case measure => simp [intOf]
            · go_wp2
              go_roundw
              case rel => exact ⟨2, by omega, by go_num, by rw [← Hval.out, part_has (h := 7) (r := ⟨k, n, e, l, v⟩) (j := 1) (by decide) (by decide)], Hbel.out⟩
              case measure => simp [intOf]
            · go_wp2
              go_roundw
              case rel => exact ⟨3, by omega, by go_num, by rw [← Hval.out, part_has (h := 7) (r := ⟨k, n, e, l, v⟩) (j := 2) (by decide) (by decide)], Hbel.out⟩
              case measure => simp [intOf]
            · by_cases hp : 0 < v.length
              · have hp' : decide ((0 : Int) < (v.length : Int)) = true := decide_eq_true (by omega)
                go_wp2
                go_ret
                exact ⟨ret_int (by rw [Hv.out, ← Hval.out, part_bad (h := 7) (r := ⟨k, n, e, l, v⟩) (j := 3) (by decide) (by decide) (by exact hp)]), Hbel.out⟩
              · have hp' : decide ((0 : Int) < (v.length : Int)) = false := decide_eq_false (by omega)
                have Hp := Lib.hid hp
                go_wp2
                go_roundw
                case rel => exact ⟨4, by omega, by go_num, by rw [← Hval.out, part_none (h := 7) (r := ⟨k, n, e, l, v⟩) (j := 3) (by decide) (by exact Hp.out)], Hbel.out⟩
                case measure => simp [intOf]
            · go_wp2
              go_ret
              exact ⟨ret_int (by rw [Hv.out, ← Hval.out]; rfl), Hbel.out⟩
      · have hf : namesFault 7 ⟨k, n, e, l, v⟩ = keyFault l := by rw [names_7, if_neg (by simpa using hn), if_neg (by simpa using hk)]
        have Hv := Lib.hid ((body_names (r := ⟨k, n, e, l, v⟩) (h := 7) (by rw [hf]; exact hl)).trans hf)
        have hl' : (keyFault l != 0) = true := by simpa using hl
        clear hn hk hl hf
        go_enter Tryd.func39, Tryd.ntmps39
        go_wp2_with (first
            | (go_at_call 74; refine (forestName_ok _ A n a).mono ?_; rintro e1 w1 ⟨rfl, rfl⟩; rw [Hn.out])
            | (go_at_call 75; (with_reducible refine (pathCheck_ok _ B e b).mono ?_); rintro e1 w1 ⟨rfl, rfl⟩; rw [Hk.out])
            | (go_at_call 75; (with_reducible refine (pathCheck_ok _ C l c).mono ?_); rintro e1 w1 ⟨rfl, rfl⟩))
        go_ret
        exact ⟨ret_int (by rw [Hv.out]), by repeat' (first | exact Below.refl _ _ | assumption | refine Below.drew ?_ | refine below_drewN ?_ _ | refine Below.alloc ?_ (by first | exact Nat.le_refl _ | omega | (simp; done) | (simp; omega)) _)⟩
    · have hf : namesFault 7 ⟨k, n, e, l, v⟩ = keyFault e := by rw [names_7, if_neg (by simpa using hn)]; exact if_pos hk
      have Hv := Lib.hid ((body_names (r := ⟨k, n, e, l, v⟩) (h := 7) (by rw [hf]; exact hk)).trans hf)
      have hk' : (keyFault e != 0) = true := by simpa using hk
      clear hn hk hf
      go_enter Tryd.func39, Tryd.ntmps39
      go_wp2_with (first
          | (go_at_call 74; refine (forestName_ok _ A n a).mono ?_; rintro e1 w1 ⟨rfl, rfl⟩; rw [Hn.out])
          | (go_at_call 75; (with_reducible refine (pathCheck_ok _ B e b).mono ?_); rintro e1 w1 ⟨rfl, rfl⟩)
          | (go_at_call 75; (with_reducible refine (pathCheck_ok _ C l c).mono ?_); rintro e1 w1 ⟨rfl, rfl⟩))
      go_ret
      exact ⟨ret_int (by rw [Hv.out]), by repeat' (first | exact Below.refl _ _ | assumption | refine Below.drew ?_ | refine below_drewN ?_ _ | refine Below.alloc ?_ (by first | exact Nat.le_refl _ | omega | (simp; done) | (simp; omega)) _)⟩
  · have hf : namesFault 7 ⟨k, n, e, l, v⟩ = nameFault n := by rw [names_7, if_pos (by exact hn)]
    have Hv := Lib.hid ((body_names (r := ⟨k, n, e, l, v⟩) (h := 7) (by rw [hf]; exact hn)).trans hf)
    have hn' : (nameFault n != 0) = true := by simpa using hn
    clear hn hf
    go_enter Tryd.func39, Tryd.ntmps39
    go_wp2_with (first
        | (go_at_call 74; refine (forestName_ok _ A n a).mono ?_; rintro e1 w1 ⟨rfl, rfl⟩)
        | (go_at_call 75; (with_reducible refine (pathCheck_ok _ B e b).mono ?_); rintro e1 w1 ⟨rfl, rfl⟩)
        | (go_at_call 75; (with_reducible refine (pathCheck_ok _ C l c).mono ?_); rintro e1 w1 ⟨rfl, rfl⟩))
    go_ret
    exact ⟨ret_int (by rw [Hv.out]), by repeat' (first | exact Below.refl _ _ | assumption | refine Below.drew ?_ | refine below_drewN ?_ _ | refine Below.alloc ?_ (by first | exact Nat.le_refl _ | omega | (simp; done) | (simp; omega)) _)⟩
set_option maxRecDepth 100000 in
set_option maxHeartbeats 4000000 in
theorem wireCheck_11 (w : World) (hT : HasAt w) (A B C D : Option Addr) (n e l v : List UInt8) (a b c d k : Nat) (hk1 : 1 ≤ k) (hk8 : k ≤ 8) (hh : hasS k = 11) :
    Calls Tryd.prog 39 #[.agg #[.int .i64 k, .slice A n.length a, .slice B e.length b, .slice C l.length c, .slice D v.length d]] w (RetV w (.int .i64 (bodyFault 11 ⟨k, n, e, l, v⟩))) := by
  have hcell : (w.alloc (.cells #[.int .i64 k, .slice A n.length a, .slice B e.length b, .slice C l.length c, .slice D v.length d] 24)).cell? ⟨0, k, none⟩ = some (.int .i64 11) := by
    have h1 := hT k (by omega)
    rw [hh] at h1
    exact (((Below.refl w.heap.size w).alloc (Nat.le_refl _) _).cell (World.block_lt_of_cell? w _ (hT k (by omega)))).trans h1
  have hka : ¬ (k : Int) < 1 := by omega
  have hkb : ¬ (8 : Int) < (k : Int) := by omega
  have hkc : (0 : Int) ≤ (k : Int) := by omega
  have hkd : (k : Int) < 9 := by omega
  have hke : k ≠ 0 := by omega
  have hkf : k < 9 := by omega
  have c11_1 : bits .and .i64 11 1 = 1 := by decide
  have c11_4 : bits .and .i64 11 4 = 0 := by decide
  have c5_1 : bits .and .i64 5 1 = 1 := by decide
  have c2_1 : bits .and .i64 2 1 = 0 := by decide
  have c1_1 : bits .and .i64 1 1 = 1 := by decide
  have x0 : ∀ W : World, (Instr.index 106 (.agg #[.slice A n.length a, .slice B e.length b, .slice C l.length c, .slice D v.length d]) (.int .i64 0)).run Tryd.prog W = .ok (.slice A n.length a) W := fun _ => by kernel_rfl
  have x1 : ∀ W : World, (Instr.index 106 (.agg #[.slice A n.length a, .slice B e.length b, .slice C l.length c, .slice D v.length d]) (.int .i64 1)).run Tryd.prog W = .ok (.slice B e.length b) W := fun _ => by kernel_rfl
  have x2 : ∀ W : World, (Instr.index 106 (.agg #[.slice A n.length a, .slice B e.length b, .slice C l.length c, .slice D v.length d]) (.int .i64 2)).run Tryd.prog W = .ok (.slice C l.length c) W := fun _ => by kernel_rfl
  have x3 : ∀ W : World, (Instr.index 106 (.agg #[.slice A n.length a, .slice B e.length b, .slice C l.length c, .slice D v.length d]) (.int .i64 3)).run Tryd.prog W = .ok (.slice D v.length d) W := fun _ => by kernel_rfl
  clear hT hh
  by_cases hn : nameFault n = 0
  · have Hn := Lib.hid hn
    by_cases hk : keyFault e = 0
    · have Hk := Lib.hid hk
      have Hnm := Lib.hid (show namesFault 11 ⟨k, n, e, l, v⟩ = 0 by rw [names_11, if_neg (by simpa using hn)]; exact hk)
      clear hn hk
      by_cases hv : 32 < v.length
      · have Hv := Lib.hid (body_value (r := ⟨k, n, e, l, v⟩) Hnm.out hv)
        have hv' : decide ((32 : Int) < (v.length : Int)) = true := decide_eq_true (by omega)
        go_enter Tryd.func39, Tryd.ntmps39
        go_wp2_with (first
            | (go_at_call 74; refine (forestName_ok _ A n a).mono ?_; rintro e1 w1 ⟨rfl, rfl⟩; rw [Hn.out])
            | (go_at_call 75; (with_reducible refine (pathCheck_ok _ B e b).mono ?_); rintro e1 w1 ⟨rfl, rfl⟩; rw [Hk.out])
            | (go_at_call 75; (with_reducible refine (pathCheck_ok _ C l c).mono ?_); rintro e1 w1 ⟨rfl, rfl⟩))
        go_ret
        exact ⟨ret_int (by rw [Hv.out]), by repeat' (first | exact Below.refl _ _ | assumption | refine Below.drew ?_ | refine below_drewN ?_ _ | refine Below.alloc ?_ (by first | exact Nat.le_refl _ | omega | (simp; done) | (simp; omega)) _)⟩
      · have Hv := Lib.hid (body_parts (r := ⟨k, n, e, l, v⟩) Hnm.out (by show v.length ≤ 32; omega))
        have hv' : decide ((32 : Int) < (v.length : Int)) = false := decide_eq_false (by omega)
        go_enter Tryd.func39, Tryd.ntmps39
        go_wp2_with (first
            | (go_at_call 74; refine (forestName_ok _ A n a).mono ?_; rintro e1 w1 ⟨rfl, rfl⟩; rw [Hn.out])
            | (go_at_call 75; (with_reducible refine (pathCheck_ok _ B e b).mono ?_); rintro e1 w1 ⟨rfl, rfl⟩; rw [Hk.out])
            | (go_at_call 75; (with_reducible refine (pathCheck_ok _ C l c).mono ?_); rintro e1 w1 ⟨rfl, rfl⟩))
        go_loopw [58] (fun i wr => ∃ j : Nat, j ≤ 4 ∧ i = .int .i64 j ∧ firstBad (partF 11 ⟨k, n, e, l, v⟩) (4 - j) j = partsFault 11 ⟨k, n, e, l, v⟩ ∧ Below w.heap.size w wr) (fun i _ => 4 - (intOf i).toNat)
        case atStart => exact ⟨0, by omega, rfl, rfl, (by repeat' (first | exact Below.refl _ _ | assumption | refine Below.drew ?_ | refine below_drewN ?_ _ | refine Below.alloc ?_ (by first | exact Nat.le_refl _ | omega | (simp; done) | (simp; omega)) _))⟩
        case round =>
          obtain ⟨j, hj, rfl, hval, hbel⟩ := hrel
          have Hval := Lib.hid hval
          have Hbel := Lib.hid hbel
          clear hval hbel
          rcases (by omega : j = 0 ∨ j = 1 ∨ j = 2 ∨ j = 3 ∨ j = 4) with rfl | rfl | rfl | rfl | rfl
          · go_wp2
            go_roundw
            case rel => exact ⟨1, by omega, by go_num, by rw [← Hval.out, part_has (h := 11) (r := ⟨k, n, e, l, v⟩) (j := 0) (by decide) (by decide)], Hbel.out⟩
            case measure => simp [intOf]
          · go_wp2
            go_roundw
            case rel => exact ⟨2, by omega, by go_num, by rw [← Hval.out, part_has (h := 11) (r := ⟨k, n, e, l, v⟩) (j := 1) (by decide) (by decide)], Hbel.out⟩
            case measure => simp [intOf]
          · by_cases hp : 0 < l.length
            · have hp' : decide ((0 : Int) < (l.length : Int)) = true := decide_eq_true (by omega)
              go_wp2
              go_ret
              exact ⟨ret_int (by rw [Hv.out, ← Hval.out, part_bad (h := 11) (r := ⟨k, n, e, l, v⟩) (j := 2) (by decide) (by decide) (by exact hp)]), Hbel.out⟩
            · have hp' : decide ((0 : Int) < (l.length : Int)) = false := decide_eq_false (by omega)
              have Hp := Lib.hid hp
              go_wp2
              go_roundw
              case rel => exact ⟨3, by omega, by go_num, by rw [← Hval.out, part_none (h := 11) (r := ⟨k, n, e, l, v⟩) (j := 2) (by decide) (by exact Hp.out)], Hbel.out⟩
              case measure => simp [intOf]
          · go_wp2
            go_roundw
            case rel => exact ⟨4, by omega, by go_num, by rw [← Hval.out, part_has (h := 11) (r := ⟨k, n, e, l, v⟩) (j := 3) (by decide) (by decide)], Hbel.out⟩
            case measure => simp [intOf]
          · go_wp2
            go_ret
            exact ⟨ret_int (by rw [Hv.out, ← Hval.out]; rfl), Hbel.out⟩
    · have hf : namesFault 11 ⟨k, n, e, l, v⟩ = keyFault e := by rw [names_11, if_neg (by simpa using hn)]
      have Hv := Lib.hid ((body_names (r := ⟨k, n, e, l, v⟩) (h := 11) (by rw [hf]; exact hk)).trans hf)
      have hk' : (keyFault e != 0) = true := by simpa using hk
      clear hn hk hf
      go_enter Tryd.func39, Tryd.ntmps39
      go_wp2_with (first
          | (go_at_call 74; refine (forestName_ok _ A n a).mono ?_; rintro e1 w1 ⟨rfl, rfl⟩; rw [Hn.out])
          | (go_at_call 75; (with_reducible refine (pathCheck_ok _ B e b).mono ?_); rintro e1 w1 ⟨rfl, rfl⟩)
          | (go_at_call 75; (with_reducible refine (pathCheck_ok _ C l c).mono ?_); rintro e1 w1 ⟨rfl, rfl⟩))
      go_ret
      exact ⟨ret_int (by rw [Hv.out]), by repeat' (first | exact Below.refl _ _ | assumption | refine Below.drew ?_ | refine below_drewN ?_ _ | refine Below.alloc ?_ (by first | exact Nat.le_refl _ | omega | (simp; done) | (simp; omega)) _)⟩
  · have hf : namesFault 11 ⟨k, n, e, l, v⟩ = nameFault n := by rw [names_11, if_pos (by exact hn)]
    have Hv := Lib.hid ((body_names (r := ⟨k, n, e, l, v⟩) (h := 11) (by rw [hf]; exact hn)).trans hf)
    have hn' : (nameFault n != 0) = true := by simpa using hn
    clear hn hf
    go_enter Tryd.func39, Tryd.ntmps39
    go_wp2_with (first
        | (go_at_call 74; refine (forestName_ok _ A n a).mono ?_; rintro e1 w1 ⟨rfl, rfl⟩)
        | (go_at_call 75; (with_reducible refine (pathCheck_ok _ B e b).mono ?_); rintro e1 w1 ⟨rfl, rfl⟩)
        | (go_at_call 75; (with_reducible refine (pathCheck_ok _ C l c).mono ?_); rintro e1 w1 ⟨rfl, rfl⟩))
    go_ret
    exact ⟨ret_int (by rw [Hv.out]), by repeat' (first | exact Below.refl _ _ | assumption | refine Below.drew ?_ | refine below_drewN ?_ _ | refine Below.alloc ?_ (by first | exact Nat.le_refl _ | omega | (simp; done) | (simp; omega)) _)⟩
set_option maxRecDepth 100000 in
set_option maxHeartbeats 4000000 in
theorem wireCheck_ok (w : World) (hT : HasAt w) (A B C D : Option Addr) (r : Rq) (a b c d : Nat) :
    Calls Tryd.prog 39 #[.agg #[.int .i64 r.kind, .slice A r.name.length a, .slice B r.key.length b, .slice C r.last.length c, .slice D r.value.length d]] w (RetV w (.int .i64 (rqFault r))) := by
  obtain ⟨i, n, e, l, v⟩ := r
  by_cases hk : 1 ≤ i ∧ i ≤ 8
  · obtain ⟨k, rfl⟩ : ∃ k : Nat, i = k := ⟨i.toNat, by omega⟩
    have hv : rqFault ⟨k, n, e, l, v⟩ = bodyFault (hasS k) ⟨k, n, e, l, v⟩ := by unfold rqFault; rw [if_neg (by simpa using hk)]; rfl
    rw [hv]
    rcases has_cases (k := k) (by omega) (by omega) with h | h | h | h
    · rw [h]; exact wireCheck_0 w hT A B C D n e l v a b c d k (by omega) (by omega) h
    · rw [h]; exact wireCheck_3 w hT A B C D n e l v a b c d k (by omega) (by omega) h
    · rw [h]; exact wireCheck_7 w hT A B C D n e l v a b c d k (by omega) (by omega) h
    · rw [h]; exact wireCheck_11 w hT A B C D n e l v a b c d k (by omega) (by omega) h
  · have hv : rqFault ⟨i, n, e, l, v⟩ = 5 := by unfold rqFault; rw [if_pos hk]
    rw [hv]
    clear hT hv
    rcases (by omega : i < 1 ∨ (1 ≤ i ∧ 8 < i)) with h | ⟨h, h'⟩
    · clear hk
      go_enter Tryd.func39, Tryd.ntmps39
      go_wp2
      go_ret
      exact ⟨rfl, by repeat' (first | exact Below.refl _ _ | assumption | refine Below.drew ?_ | refine below_drewN ?_ _ | refine Below.alloc ?_ (by first | exact Nat.le_refl _ | omega | (simp; done) | (simp; omega)) _)⟩
    · clear hk
      have h1 : ¬ i < 1 := by omega
      go_enter Tryd.func39, Tryd.ntmps39
      go_wp2
      go_ret
      exact ⟨rfl, by repeat' (first | exact Below.refl _ _ | assumption | refine Below.drew ?_ | refine below_drewN ?_ _ | refine Below.alloc ?_ (by first | exact Nat.le_refl _ | omega | (simp; done) | (simp; omega)) _)⟩
end Go.Proofs.YtjgdeeabejoegaaDoor
