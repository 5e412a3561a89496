/- TxnF: Walks: the closures of package txn, and the searches over them; txn.write and txn.touches. Walk: txn.Check. Walks: txn.writes and txn.own. The conditions of each are in its words. -/
import Derived.Test.YtjgdeeabejoegaaDoorKTxn
import Derived.Test.YtjgdeeabejoegaaDoorKCommit
namespace Go.Proofs.YtjgdeeabejoegaaDoor
open Go.RowKit
set_option linter.unusedVariables false
set_option linter.unusedSimpArgs false

/-- The first place at which q holds; -1: there is none. -/
def idxS (q : Wr → Bool) (l : List Wr) : Int := match l.findIdx? q with | some i => (i : Int) | none => -1
theorem idx_none {q : Wr → Bool} {l : List Wr} (h : l.any q = false) : idxS q l = -1 := by
  have h' : l.findIdx? q = none := by rw [List.findIdx?_eq_none_iff]; simpa using h
  simp [idxS, h']
theorem idx_here {q : Wr → Bool} {l : List Wr} {k : Nat} (hk : k < l.length) (h : (l.take k).any q = false) (hq : q l[k] = true) : idxS q l = k := by
  have h' : l.findIdx? q = some k := by
    rw [List.findIdx?_eq_some_iff_getElem]
    refine ⟨hk, hq, fun j hj => ?_⟩
    simp only [List.any_eq_false] at h
    exact h _ (List.mem_take_iff_getElem.2 ⟨j, by omega, rfl⟩)
  simp [idxS, h']
theorem idx_any (q : Wr → Bool) (l : List Wr) : decide (0 ≤ idxS q l) = l.any q := by
  unfold idxS
  cases h : l.findIdx? q with
  | none =>
    rw [List.findIdx?_eq_none_iff] at h
    have : l.any q = false := by simpa using h
    rw [this]; rfl
  | some i =>
    rw [List.findIdx?_eq_some_iff_getElem] at h
    obtain ⟨h1, h2, _⟩ := h
    have : l.any q = true := List.any_eq_true.2 ⟨_, List.getElem_mem h1, h2⟩
    rw [this]; simp
theorem any_next {q : Wr → Bool} {l : List Wr} {k : Nat} (hk : k < l.length) (h : (l.take k).any q = false) (hq : q l[k] = false) : (l.take (k + 1)).any q = false := by
  rw [take_snoc l k hk, List.any_append, h]
  simp [hq]
theorem cmp3_pos {a b : List UInt8} (h : lt b a = true) : 0 < cmp3 a b := by
  have h1 := lt_asymm _ _ h
  have h2 : a ≠ b := fun e => by subst e; rw [lt_irrefl] at h; cases h
  simp [cmp3, h1, h2]
theorem cmp3_nonpos {a b : List UInt8} (h : lt b a = false) : cmp3 a b ≤ 0 := by
  unfold cmp3
  split
  · decide
  · split
    · decide
    · rename_i h1 h2
      exact absurd (lt_tri _ _ (by simpa using h1) h) h2
/-- Does a write go where a read looked? -/
def touchS (r x : Wr) : Bool := r.name == x.name && (if r.flag = true then !lt x.key r.key && !lt r.value x.key else r.key == x.key)

set_option maxRecDepth 100000 in
set_option maxHeartbeats 1000000 in
theorem txnWriteOne_ok (w : World) (A B C : Option Addr) (x : Wr) (a b c : Nat) (ha : Bs All w A x.name) (hb : Bs All w B x.key) (hc : Bs All w C x.value) (h1 : x.name.length ≤ big) (h2 : x.key.length ≤ big) (h3 : x.value.length ≤ big) :
    Calls Tryd.prog 87 #[.agg #[.slice A x.name.length a, .slice B x.key.length b, .bool x.flag, .slice C x.value.length c]] w (RetV w (.int .i64 (writeFaultS x))) := by
  have Ha := Lib.hid ha
  have Hb := Lib.hid hb
  have Hc := Lib.hid hc
  have Hone := Lib.hid (appliedS_one x)
  clear ha hb hc
  go_enter Tryd.func87, Tryd.ntmps87
  go_wp2_with (go_at_call 120; refine (forestApply_ok _ none [] 0 _ [x] 1 SL.nil ?hws).mono ?_; (case hws => exact one_wr (w := w) (w.heap.size + 1) (by have := box_new (w.alloc (.cells #[.slice A x.name.length a, .slice B x.key.length b, .bool x.flag, .slice C x.value.length c] 34)) #[.slice A x.name.length a, .slice B x.key.length b, .bool x.flag, .slice C x.value.length c] 34; simpa using this) (((Below.refl _ _).alloc (Nat.le_refl _) _).alloc (by simp) _) Ha.out Hb.out Hc.out h1 h2 h3); rintro e w1 ⟨A5, c5, rfl, _, _, hbw1⟩; rw [Hone.out])
  go_ret
  exact ⟨rfl, (((Below.refl w.heap.size w).alloc (Nat.le_refl _) _).alloc (by simp) _).next hbw1 (by simp; omega)⟩

set_option maxRecDepth 100000 in
set_option maxHeartbeats 1000000 in
theorem chk1_ok (w : World) (g : Nat) (A B C A' B' C' : Option Addr) (x y : Wr) (a b c a' b' c' : Nat) (ha : Bs All w A x.name) (hb : Bs All w B x.key) (hc : Bs All w C x.value) (ha' : Bs All w A' y.name) (hb' : Bs All w B' y.key) (hc' : Bs All w C' y.value) (hg : w.heap[g]? = some (.cells #[.slice A' y.name.length a', .slice B' y.key.length b', .bool y.flag, .slice C' y.value.length c'] 26 (0, 0))) :
    Calls Tryd.prog 116 #[.agg #[.slice A x.name.length a, .slice B x.key.length b, .bool x.flag, .slice C x.value.length c], .pointer (some ⟨g, 0, none⟩)] w (RetV w (.bool (sameRd x y))) := by
  have Ha := Lib.hid ha
  have Hb := Lib.hid hb
  have Hc := Lib.hid hc
  have Ha' := Lib.hid ha'
  have Hb' := Lib.hid hb'
  have Hc' := Lib.hid hc'
  clear ha hb hc ha' hb' hc'
  obtain ⟨q0, q1, q2, q3, _⟩ := box4 hg
  have hlt : g < w.heap.size := (Array.getElem?_eq_some_iff.1 hg).1
  clear hg
  go_enter Tryd.func116, Tryd.ntmps116
  go_wp2_with (go_at_call 81; refine (progSameRead_ok _ A B C A' B' C' x y a b c a' b' c' (Ha.out.bbelow ?_) (Hb.out.bbelow ?_) (Hc.out.bbelow ?_) (Ha'.out.bbelow ?_) (Hb'.out.bbelow ?_) (Hc'.out.bbelow ?_)).mono ?_; (repeat' (first | exact Below.refl _ _ | assumption | refine Below.drew ?_ | refine below_drewN ?_ _ | refine Below.alloc ?_ (by first | exact Nat.le_refl _ | omega | (simp; done) | (simp; omega)) _)); (repeat' (first | exact Below.refl _ _ | assumption | refine Below.drew ?_ | refine below_drewN ?_ _ | refine Below.alloc ?_ (by first | exact Nat.le_refl _ | omega | (simp; done) | (simp; omega)) _)); (repeat' (first | exact Below.refl _ _ | assumption | refine Below.drew ?_ | refine below_drewN ?_ _ | refine Below.alloc ?_ (by first | exact Nat.le_refl _ | omega | (simp; done) | (simp; omega)) _)); (repeat' (first | exact Below.refl _ _ | assumption | refine Below.drew ?_ | refine below_drewN ?_ _ | refine Below.alloc ?_ (by first | exact Nat.le_refl _ | omega | (simp; done) | (simp; omega)) _)); (repeat' (first | exact Below.refl _ _ | assumption | refine Below.drew ?_ | refine below_drewN ?_ _ | refine Below.alloc ?_ (by first | exact Nat.le_refl _ | omega | (simp; done) | (simp; omega)) _)); (repeat' (first | exact Below.refl _ _ | assumption | refine Below.drew ?_ | refine below_drewN ?_ _ | refine Below.alloc ?_ (by first | exact Nat.le_refl _ | omega | (simp; done) | (simp; omega)) _)); rintro e w1 ⟨rfl, hb1⟩)
  go_ret
  exact ⟨rfl, ((Below.refl w.heap.size w).alloc (Nat.le_refl _) _).next hb1 (by simp)⟩
set_option maxRecDepth 100000 in
set_option maxHeartbeats 1000000 in
theorem chk1_idx (w : World) (L : Option Addr) (l : List Wr) (n : Nat) (g : Nat) (A' B' C' : Option Addr) (y : Wr) (a' b' c' : Nat) (hl : Ws All w L l) (hn : l.length ≤ big) (ha' : Bs All w A' y.name) (hb' : Bs All w B' y.key) (hc' : Bs All w C' y.value) (hg : w.heap[g]? = some (.cells #[.slice A' y.name.length a', .slice B' y.key.length b', .bool y.flag, .slice C' y.value.length c'] 26 (0, 0))) :
    Calls Tryd.prog 119 #[.slice L l.length n, .func (.func 116) #[] #[.pointer (some ⟨g, 0, none⟩)]] w (RetV w (.int .i64 (idxS (fun x => sameRd x y) l))) := by
  unfold big at hn
  have Hl := Lib.hid hl
  have Ha' := Lib.hid ha'
  have Hb' := Lib.hid hb'
  have Hc' := Lib.hid hc'
  have Hg := Lib.hid hg
  have hgl : g < w.heap.size := (Array.getElem?_eq_some_iff.1 hg).1
  clear hl ha' hb' hc' hg
  go_enter Tryd.func119, Tryd.ntmps119
  go_wp2
  go_loopw [8] (fun i wr => ∃ k : Nat, k ≤ l.length ∧ i = .int .i64 k ∧ (l.take k).any (fun x => sameRd x y) = false ∧ Below w.heap.size w wr) (fun i _ => l.length - (intOf i).toNat)
  case atStart => exact ⟨0, by omega, rfl, rfl, Below.refl _ _⟩
  case round =>
    obtain ⟨k, hk, rfl, hno, hbel⟩ := hrel
    have Hbel := Lib.hid hbel
    have hbz := hbel.size
    have Hno := Lib.hid hno
    clear hbel hno
    by_cases hlt : k < l.length
    · obtain ⟨g2, off, A, a, B, b, C, c, rfl, _, hal, hc1, hc2, hc3, hc4, hs1, hs2, hs3, _, _, _⟩ := wrs_at (Hl.out.below wrR_stays Hbel.out) hlt
      have Hhere := Lib.hid (fun h => idx_here (q := fun x => sameRd x y) hlt Hno.out h)
      have Hnext := Lib.hid (fun h => any_next (q := fun x => sameRd x y) hlt Hno.out h)
      generalize l[k] = x at *
      have Hs1 := Lib.hid hs1.bz
      have Hs2 := Lib.hid hs2.bz
      have Hs3 := Lib.hid hs3.bz
      clear hs1 hs2 hs3
      rcases Bool.eq_false_or_eq_true (sameRd x y) with hq | hq
      · have Hh := Lib.hid (Hhere.out hq)
        have Hq := Lib.hid hq
        clear Hhere Hnext hq
        go_wp2_with (go_at_call 116; refine (chk1_ok _ g A B C A' B' C' x y a b c a' b' c' Hs1.out Hs2.out Hs3.out (Ha'.out.bbelow Hbel.out) (Hb'.out.bbelow Hbel.out) (Hc'.out.bbelow Hbel.out) ((Hbel.out.block _ hgl).trans Hg.out)).mono ?_; rintro e w1 ⟨rfl, hb1⟩; rw [Hq.out])
        go_ret
        exact ⟨ret_int (by rw [Hh.out]), Hbel.out.next hb1 hbz⟩
      · have Hh := Lib.hid (Hnext.out hq)
        have Hq := Lib.hid hq
        clear Hhere Hnext hq
        go_wp2_with (go_at_call 116; refine (chk1_ok _ g A B C A' B' C' x y a b c a' b' c' Hs1.out Hs2.out Hs3.out (Ha'.out.bbelow Hbel.out) (Hb'.out.bbelow Hbel.out) (Hc'.out.bbelow Hbel.out) ((Hbel.out.block _ hgl).trans Hg.out)).mono ?_; rintro e w1 ⟨rfl, hb1⟩; rw [Hq.out])
        go_roundw
        case rel => exact ⟨k + 1, by omega, by go_num, Hh.out, Hbel.out.next hb1 hbz⟩
        case measure => simp [intOf]; omega
    · obtain rfl : k = l.length := by omega
      have hf := Hno.out
      rw [List.take_length] at hf
      have Hf := Lib.hid (idx_none hf)
      clear hf Hno
      go_wp2
      go_ret
      exact ⟨ret_int (by rw [Hf.out]), Hbel.out⟩
set_option maxRecDepth 100000 in
set_option maxHeartbeats 1000000 in
theorem chk1_has (w : World) (L : Option Addr) (l : List Wr) (n : Nat) (g : Nat) (A' B' C' : Option Addr) (y : Wr) (a' b' c' : Nat) (hl : Ws All w L l) (hn : l.length ≤ big) (ha' : Bs All w A' y.name) (hb' : Bs All w B' y.key) (hc' : Bs All w C' y.value) (hg : w.heap[g]? = some (.cells #[.slice A' y.name.length a', .slice B' y.key.length b', .bool y.flag, .slice C' y.value.length c'] 26 (0, 0))) :
    Calls Tryd.prog 79 #[.slice L l.length n, .func (.func 116) #[] #[.pointer (some ⟨g, 0, none⟩)]] w (RetV w (.bool (l.any (fun x => sameRd x y)))) := by
  have Hi := Lib.hid (chk1_idx w L l n g A' B' C' y a' b' c' hl hn ha' hb' hc' hg)
  have Hany := Lib.hid (idx_any (fun x => sameRd x y) l)
  clear hl ha' hb' hc' hg
  go_enter Tryd.func79, Tryd.ntmps79
  go_wp2_with (go_at_call 119; refine Hi.out.mono ?_; rintro e w1 ⟨rfl, hb1⟩)
  go_ret
  exact ⟨ret_bool (by rw [← Hany.out]), hb1⟩
set_option maxRecDepth 100000 in
set_option maxHeartbeats 1000000 in
theorem chk2_ok (w : World) (g : Nat) (A B C A' B' C' : Option Addr) (x y : Wr) (a b c a' b' c' : Nat) (ha : Bs All w A x.name) (hb : Bs All w B x.key) (hc : Bs All w C x.value) (ha' : Bs All w A' y.name) (hb' : Bs All w B' y.key) (hc' : Bs All w C' y.value) (hg : w.heap[g]? = some (.cells #[.slice A' y.name.length a', .slice B' y.key.length b', .bool y.flag, .slice C' y.value.length c'] 34 (0, 0))) :
    Calls Tryd.prog 118 #[.agg #[.slice A x.name.length a, .slice B x.key.length b, .bool x.flag, .slice C x.value.length c], .pointer (some ⟨g, 0, none⟩)] w (RetV w (.bool (samePl x y))) := by
  have Ha := Lib.hid ha
  have Hb := Lib.hid hb
  have Hc := Lib.hid hc
  have Ha' := Lib.hid ha'
  have Hb' := Lib.hid hb'
  have Hc' := Lib.hid hc'
  clear ha hb hc ha' hb' hc'
  obtain ⟨q0, q1, q2, q3, _⟩ := box4 hg
  have hlt : g < w.heap.size := (Array.getElem?_eq_some_iff.1 hg).1
  clear hg
  go_enter Tryd.func118, Tryd.ntmps118
  go_wp2_with (go_at_call 91; refine (progSamePlace_ok _ A B C A' B' C' x y a b c a' b' c' (Ha.out.bbelow ?_) (Hb.out.bbelow ?_) (Hc.out.bbelow ?_) (Ha'.out.bbelow ?_) (Hb'.out.bbelow ?_) (Hc'.out.bbelow ?_)).mono ?_; (repeat' (first | exact Below.refl _ _ | assumption | refine Below.drew ?_ | refine below_drewN ?_ _ | refine Below.alloc ?_ (by first | exact Nat.le_refl _ | omega | (simp; done) | (simp; omega)) _)); (repeat' (first | exact Below.refl _ _ | assumption | refine Below.drew ?_ | refine below_drewN ?_ _ | refine Below.alloc ?_ (by first | exact Nat.le_refl _ | omega | (simp; done) | (simp; omega)) _)); (repeat' (first | exact Below.refl _ _ | assumption | refine Below.drew ?_ | refine below_drewN ?_ _ | refine Below.alloc ?_ (by first | exact Nat.le_refl _ | omega | (simp; done) | (simp; omega)) _)); (repeat' (first | exact Below.refl _ _ | assumption | refine Below.drew ?_ | refine below_drewN ?_ _ | refine Below.alloc ?_ (by first | exact Nat.le_refl _ | omega | (simp; done) | (simp; omega)) _)); (repeat' (first | exact Below.refl _ _ | assumption | refine Below.drew ?_ | refine below_drewN ?_ _ | refine Below.alloc ?_ (by first | exact Nat.le_refl _ | omega | (simp; done) | (simp; omega)) _)); (repeat' (first | exact Below.refl _ _ | assumption | refine Below.drew ?_ | refine below_drewN ?_ _ | refine Below.alloc ?_ (by first | exact Nat.le_refl _ | omega | (simp; done) | (simp; omega)) _)); rintro e w1 ⟨rfl, hb1⟩)
  go_ret
  exact ⟨rfl, ((Below.refl w.heap.size w).alloc (Nat.le_refl _) _).next hb1 (by simp)⟩
set_option maxRecDepth 100000 in
set_option maxHeartbeats 1000000 in
theorem chk2_idx (w : World) (L : Option Addr) (l : List Wr) (n : Nat) (g : Nat) (A' B' C' : Option Addr) (y : Wr) (a' b' c' : Nat) (hl : Ws All w L l) (hn : l.length ≤ big) (ha' : Bs All w A' y.name) (hb' : Bs All w B' y.key) (hc' : Bs All w C' y.value) (hg : w.heap[g]? = some (.cells #[.slice A' y.name.length a', .slice B' y.key.length b', .bool y.flag, .slice C' y.value.length c'] 34 (0, 0))) :
    Calls Tryd.prog 89 #[.slice L l.length n, .func (.func 118) #[] #[.pointer (some ⟨g, 0, none⟩)]] w (RetV w (.int .i64 (idxS (fun x => samePl x y) l))) := by
  unfold big at hn
  have Hl := Lib.hid hl
  have Ha' := Lib.hid ha'
  have Hb' := Lib.hid hb'
  have Hc' := Lib.hid hc'
  have Hg := Lib.hid hg
  have hgl : g < w.heap.size := (Array.getElem?_eq_some_iff.1 hg).1
  clear hl ha' hb' hc' hg
  go_enter Tryd.func89, Tryd.ntmps89
  go_wp2
  go_loopw [8] (fun i wr => ∃ k : Nat, k ≤ l.length ∧ i = .int .i64 k ∧ (l.take k).any (fun x => samePl x y) = false ∧ Below w.heap.size w wr) (fun i _ => l.length - (intOf i).toNat)
  case atStart => exact ⟨0, by omega, rfl, rfl, Below.refl _ _⟩
  case round =>
    obtain ⟨k, hk, rfl, hno, hbel⟩ := hrel
    have Hbel := Lib.hid hbel
    have hbz := hbel.size
    have Hno := Lib.hid hno
    clear hbel hno
    by_cases hlt : k < l.length
    · obtain ⟨g2, off, A, a, B, b, C, c, rfl, _, hal, hc1, hc2, hc3, hc4, hs1, hs2, hs3, _, _, _⟩ := wrs_at (Hl.out.below wrR_stays Hbel.out) hlt
      have Hhere := Lib.hid (fun h => idx_here (q := fun x => samePl x y) hlt Hno.out h)
      have Hnext := Lib.hid (fun h => any_next (q := fun x => samePl x y) hlt Hno.out h)
      generalize l[k] = x at *
      have Hs1 := Lib.hid hs1.bz
      have Hs2 := Lib.hid hs2.bz
      have Hs3 := Lib.hid hs3.bz
      clear hs1 hs2 hs3
      rcases Bool.eq_false_or_eq_true (samePl x y) with hq | hq
      · have Hh := Lib.hid (Hhere.out hq)
        have Hq := Lib.hid hq
        clear Hhere Hnext hq
        go_wp2_with (go_at_call 118; refine (chk2_ok _ g A B C A' B' C' x y a b c a' b' c' Hs1.out Hs2.out Hs3.out (Ha'.out.bbelow Hbel.out) (Hb'.out.bbelow Hbel.out) (Hc'.out.bbelow Hbel.out) ((Hbel.out.block _ hgl).trans Hg.out)).mono ?_; rintro e w1 ⟨rfl, hb1⟩; rw [Hq.out])
        go_ret
        exact ⟨ret_int (by rw [Hh.out]), Hbel.out.next hb1 hbz⟩
      · have Hh := Lib.hid (Hnext.out hq)
        have Hq := Lib.hid hq
        clear Hhere Hnext hq
        go_wp2_with (go_at_call 118; refine (chk2_ok _ g A B C A' B' C' x y a b c a' b' c' Hs1.out Hs2.out Hs3.out (Ha'.out.bbelow Hbel.out) (Hb'.out.bbelow Hbel.out) (Hc'.out.bbelow Hbel.out) ((Hbel.out.block _ hgl).trans Hg.out)).mono ?_; rintro e w1 ⟨rfl, hb1⟩; rw [Hq.out])
        go_roundw
        case rel => exact ⟨k + 1, by omega, by go_num, Hh.out, Hbel.out.next hb1 hbz⟩
        case measure => simp [intOf]; omega
    · obtain rfl : k = l.length := by omega
      have hf := Hno.out
      rw [List.take_length] at hf
      have Hf := Lib.hid (idx_none hf)
      clear hf Hno
      go_wp2
      go_ret
      exact ⟨ret_int (by rw [Hf.out]), Hbel.out⟩
set_option maxRecDepth 100000 in
set_option maxHeartbeats 1000000 in
theorem chk2_has (w : World) (L : Option Addr) (l : List Wr) (n : Nat) (g : Nat) (A' B' C' : Option Addr) (y : Wr) (a' b' c' : Nat) (hl : Ws All w L l) (hn : l.length ≤ big) (ha' : Bs All w A' y.name) (hb' : Bs All w B' y.key) (hc' : Bs All w C' y.value) (hg : w.heap[g]? = some (.cells #[.slice A' y.name.length a', .slice B' y.key.length b', .bool y.flag, .slice C' y.value.length c'] 34 (0, 0))) :
    Calls Tryd.prog 117 #[.slice L l.length n, .func (.func 118) #[] #[.pointer (some ⟨g, 0, none⟩)]] w (RetV w (.bool (l.any (fun x => samePl x y)))) := by
  have Hi := Lib.hid (chk2_idx w L l n g A' B' C' y a' b' c' hl hn ha' hb' hc' hg)
  have Hany := Lib.hid (idx_any (fun x => samePl x y) l)
  clear hl ha' hb' hc' hg
  go_enter Tryd.func117, Tryd.ntmps117
  go_wp2_with (go_at_call 89; refine Hi.out.mono ?_; rintro e w1 ⟨rfl, hb1⟩)
  go_ret
  exact ⟨ret_bool (by rw [← Hany.out]), hb1⟩
set_option maxRecDepth 100000 in
set_option maxHeartbeats 1000000 in
theorem not1_ok (w : World) (g : Nat) (A B C A' B' C' : Option Addr) (x y : Wr) (a b c a' b' c' : Nat) (ha : Bs All w A x.name) (hb : Bs All w B x.key) (hc : Bs All w C x.value) (ha' : Bs All w A' y.name) (hb' : Bs All w B' y.key) (hc' : Bs All w C' y.value) (hg : w.heap[g]? = some (.cells #[.slice A' y.name.length a', .slice B' y.key.length b', .bool y.flag, .slice C' y.value.length c'] 26 (0, 0))) :
    Calls Tryd.prog 80 #[.agg #[.slice A x.name.length a, .slice B x.key.length b, .bool x.flag, .slice C x.value.length c], .pointer (some ⟨g, 0, none⟩)] w (RetV w (.bool (sameRd x y))) := by
  have Ha := Lib.hid ha
  have Hb := Lib.hid hb
  have Hc := Lib.hid hc
  have Ha' := Lib.hid ha'
  have Hb' := Lib.hid hb'
  have Hc' := Lib.hid hc'
  clear ha hb hc ha' hb' hc'
  obtain ⟨q0, q1, q2, q3, _⟩ := box4 hg
  have hlt : g < w.heap.size := (Array.getElem?_eq_some_iff.1 hg).1
  clear hg
  go_enter Tryd.func80, Tryd.ntmps80
  go_wp2_with (go_at_call 81; refine (progSameRead_ok _ A B C A' B' C' x y a b c a' b' c' (Ha.out.bbelow ?_) (Hb.out.bbelow ?_) (Hc.out.bbelow ?_) (Ha'.out.bbelow ?_) (Hb'.out.bbelow ?_) (Hc'.out.bbelow ?_)).mono ?_; (repeat' (first | exact Below.refl _ _ | assumption | refine Below.drew ?_ | refine below_drewN ?_ _ | refine Below.alloc ?_ (by first | exact Nat.le_refl _ | omega | (simp; done) | (simp; omega)) _)); (repeat' (first | exact Below.refl _ _ | assumption | refine Below.drew ?_ | refine below_drewN ?_ _ | refine Below.alloc ?_ (by first | exact Nat.le_refl _ | omega | (simp; done) | (simp; omega)) _)); (repeat' (first | exact Below.refl _ _ | assumption | refine Below.drew ?_ | refine below_drewN ?_ _ | refine Below.alloc ?_ (by first | exact Nat.le_refl _ | omega | (simp; done) | (simp; omega)) _)); (repeat' (first | exact Below.refl _ _ | assumption | refine Below.drew ?_ | refine below_drewN ?_ _ | refine Below.alloc ?_ (by first | exact Nat.le_refl _ | omega | (simp; done) | (simp; omega)) _)); (repeat' (first | exact Below.refl _ _ | assumption | refine Below.drew ?_ | refine below_drewN ?_ _ | refine Below.alloc ?_ (by first | exact Nat.le_refl _ | omega | (simp; done) | (simp; omega)) _)); (repeat' (first | exact Below.refl _ _ | assumption | refine Below.drew ?_ | refine below_drewN ?_ _ | refine Below.alloc ?_ (by first | exact Nat.le_refl _ | omega | (simp; done) | (simp; omega)) _)); rintro e w1 ⟨rfl, hb1⟩)
  go_ret
  exact ⟨rfl, ((Below.refl w.heap.size w).alloc (Nat.le_refl _) _).next hb1 (by simp)⟩
set_option maxRecDepth 100000 in
set_option maxHeartbeats 1000000 in
theorem not1_idx (w : World) (L : Option Addr) (l : List Wr) (n : Nat) (g : Nat) (A' B' C' : Option Addr) (y : Wr) (a' b' c' : Nat) (hl : Ws All w L l) (hn : l.length ≤ big) (ha' : Bs All w A' y.name) (hb' : Bs All w B' y.key) (hc' : Bs All w C' y.value) (hg : w.heap[g]? = some (.cells #[.slice A' y.name.length a', .slice B' y.key.length b', .bool y.flag, .slice C' y.value.length c'] 26 (0, 0))) :
    Calls Tryd.prog 119 #[.slice L l.length n, .func (.func 80) #[] #[.pointer (some ⟨g, 0, none⟩)]] w (RetV w (.int .i64 (idxS (fun x => sameRd x y) l))) := by
  unfold big at hn
  have Hl := Lib.hid hl
  have Ha' := Lib.hid ha'
  have Hb' := Lib.hid hb'
  have Hc' := Lib.hid hc'
  have Hg := Lib.hid hg
  have hgl : g < w.heap.size := (Array.getElem?_eq_some_iff.1 hg).1
  clear hl ha' hb' hc' hg
  go_enter Tryd.func119, Tryd.ntmps119
  go_wp2
  go_loopw [8] (fun i wr => ∃ k : Nat, k ≤ l.length ∧ i = .int .i64 k ∧ (l.take k).any (fun x => sameRd x y) = false ∧ Below w.heap.size w wr) (fun i _ => l.length - (intOf i).toNat)
  case atStart => exact ⟨0, by omega, rfl, rfl, Below.refl _ _⟩
  case round =>
    obtain ⟨k, hk, rfl, hno, hbel⟩ := hrel
    have Hbel := Lib.hid hbel
    have hbz := hbel.size
    have Hno := Lib.hid hno
    clear hbel hno
    by_cases hlt : k < l.length
    · obtain ⟨g2, off, A, a, B, b, C, c, rfl, _, hal, hc1, hc2, hc3, hc4, hs1, hs2, hs3, _, _, _⟩ := wrs_at (Hl.out.below wrR_stays Hbel.out) hlt
      have Hhere := Lib.hid (fun h => idx_here (q := fun x => sameRd x y) hlt Hno.out h)
      have Hnext := Lib.hid (fun h => any_next (q := fun x => sameRd x y) hlt Hno.out h)
      generalize l[k] = x at *
      have Hs1 := Lib.hid hs1.bz
      have Hs2 := Lib.hid hs2.bz
      have Hs3 := Lib.hid hs3.bz
      clear hs1 hs2 hs3
      rcases Bool.eq_false_or_eq_true (sameRd x y) with hq | hq
      · have Hh := Lib.hid (Hhere.out hq)
        have Hq := Lib.hid hq
        clear Hhere Hnext hq
        go_wp2_with (go_at_call 80; refine (not1_ok _ g A B C A' B' C' x y a b c a' b' c' Hs1.out Hs2.out Hs3.out (Ha'.out.bbelow Hbel.out) (Hb'.out.bbelow Hbel.out) (Hc'.out.bbelow Hbel.out) ((Hbel.out.block _ hgl).trans Hg.out)).mono ?_; rintro e w1 ⟨rfl, hb1⟩; rw [Hq.out])
        go_ret
        exact ⟨ret_int (by rw [Hh.out]), Hbel.out.next hb1 hbz⟩
      · have Hh := Lib.hid (Hnext.out hq)
        have Hq := Lib.hid hq
        clear Hhere Hnext hq
        go_wp2_with (go_at_call 80; refine (not1_ok _ g A B C A' B' C' x y a b c a' b' c' Hs1.out Hs2.out Hs3.out (Ha'.out.bbelow Hbel.out) (Hb'.out.bbelow Hbel.out) (Hc'.out.bbelow Hbel.out) ((Hbel.out.block _ hgl).trans Hg.out)).mono ?_; rintro e w1 ⟨rfl, hb1⟩; rw [Hq.out])
        go_roundw
        case rel => exact ⟨k + 1, by omega, by go_num, Hh.out, Hbel.out.next hb1 hbz⟩
        case measure => simp [intOf]; omega
    · obtain rfl : k = l.length := by omega
      have hf := Hno.out
      rw [List.take_length] at hf
      have Hf := Lib.hid (idx_none hf)
      clear hf Hno
      go_wp2
      go_ret
      exact ⟨ret_int (by rw [Hf.out]), Hbel.out⟩
set_option maxRecDepth 100000 in
set_option maxHeartbeats 1000000 in
theorem not1_has (w : World) (L : Option Addr) (l : List Wr) (n : Nat) (g : Nat) (A' B' C' : Option Addr) (y : Wr) (a' b' c' : Nat) (hl : Ws All w L l) (hn : l.length ≤ big) (ha' : Bs All w A' y.name) (hb' : Bs All w B' y.key) (hc' : Bs All w C' y.value) (hg : w.heap[g]? = some (.cells #[.slice A' y.name.length a', .slice B' y.key.length b', .bool y.flag, .slice C' y.value.length c'] 26 (0, 0))) :
    Calls Tryd.prog 79 #[.slice L l.length n, .func (.func 80) #[] #[.pointer (some ⟨g, 0, none⟩)]] w (RetV w (.bool (l.any (fun x => sameRd x y)))) := by
  have Hi := Lib.hid (not1_idx w L l n g A' B' C' y a' b' c' hl hn ha' hb' hc' hg)
  have Hany := Lib.hid (idx_any (fun x => sameRd x y) l)
  clear hl ha' hb' hc' hg
  go_enter Tryd.func79, Tryd.ntmps79
  go_wp2_with (go_at_call 119; refine Hi.out.mono ?_; rintro e w1 ⟨rfl, hb1⟩)
  go_ret
  exact ⟨ret_bool (by rw [← Hany.out]), hb1⟩
set_option maxRecDepth 100000 in
set_option maxHeartbeats 1000000 in
theorem wri1_ok (w : World) (g : Nat) (A B C A' B' C' : Option Addr) (x y : Wr) (a b c a' b' c' : Nat) (ha : Bs All w A x.name) (hb : Bs All w B x.key) (hc : Bs All w C x.value) (ha' : Bs All w A' y.name) (hb' : Bs All w B' y.key) (hc' : Bs All w C' y.value) (hg : w.heap[g]? = some (.cells #[.slice A' y.name.length a', .slice B' y.key.length b', .bool y.flag, .slice C' y.value.length c'] 34 (0, 0))) :
    Calls Tryd.prog 90 #[.agg #[.slice A x.name.length a, .slice B x.key.length b, .bool x.flag, .slice C x.value.length c], .pointer (some ⟨g, 0, none⟩)] w (RetV w (.bool (samePl x y))) := by
  have Ha := Lib.hid ha
  have Hb := Lib.hid hb
  have Hc := Lib.hid hc
  have Ha' := Lib.hid ha'
  have Hb' := Lib.hid hb'
  have Hc' := Lib.hid hc'
  clear ha hb hc ha' hb' hc'
  obtain ⟨q0, q1, q2, q3, _⟩ := box4 hg
  have hlt : g < w.heap.size := (Array.getElem?_eq_some_iff.1 hg).1
  clear hg
  go_enter Tryd.func90, Tryd.ntmps90
  go_wp2_with (go_at_call 91; refine (progSamePlace_ok _ A B C A' B' C' x y a b c a' b' c' (Ha.out.bbelow ?_) (Hb.out.bbelow ?_) (Hc.out.bbelow ?_) (Ha'.out.bbelow ?_) (Hb'.out.bbelow ?_) (Hc'.out.bbelow ?_)).mono ?_; (repeat' (first | exact Below.refl _ _ | assumption | refine Below.drew ?_ | refine below_drewN ?_ _ | refine Below.alloc ?_ (by first | exact Nat.le_refl _ | omega | (simp; done) | (simp; omega)) _)); (repeat' (first | exact Below.refl _ _ | assumption | refine Below.drew ?_ | refine below_drewN ?_ _ | refine Below.alloc ?_ (by first | exact Nat.le_refl _ | omega | (simp; done) | (simp; omega)) _)); (repeat' (first | exact Below.refl _ _ | assumption | refine Below.drew ?_ | refine below_drewN ?_ _ | refine Below.alloc ?_ (by first | exact Nat.le_refl _ | omega | (simp; done) | (simp; omega)) _)); (repeat' (first | exact Below.refl _ _ | assumption | refine Below.drew ?_ | refine below_drewN ?_ _ | refine Below.alloc ?_ (by first | exact Nat.le_refl _ | omega | (simp; done) | (simp; omega)) _)); (repeat' (first | exact Below.refl _ _ | assumption | refine Below.drew ?_ | refine below_drewN ?_ _ | refine Below.alloc ?_ (by first | exact Nat.le_refl _ | omega | (simp; done) | (simp; omega)) _)); (repeat' (first | exact Below.refl _ _ | assumption | refine Below.drew ?_ | refine below_drewN ?_ _ | refine Below.alloc ?_ (by first | exact Nat.le_refl _ | omega | (simp; done) | (simp; omega)) _)); rintro e w1 ⟨rfl, hb1⟩)
  go_ret
  exact ⟨rfl, ((Below.refl w.heap.size w).alloc (Nat.le_refl _) _).next hb1 (by simp)⟩
set_option maxRecDepth 100000 in
set_option maxHeartbeats 1000000 in
theorem wri1_idx (w : World) (L : Option Addr) (l : List Wr) (n : Nat) (g : Nat) (A' B' C' : Option Addr) (y : Wr) (a' b' c' : Nat) (hl : Ws All w L l) (hn : l.length ≤ big) (ha' : Bs All w A' y.name) (hb' : Bs All w B' y.key) (hc' : Bs All w C' y.value) (hg : w.heap[g]? = some (.cells #[.slice A' y.name.length a', .slice B' y.key.length b', .bool y.flag, .slice C' y.value.length c'] 34 (0, 0))) :
    Calls Tryd.prog 89 #[.slice L l.length n, .func (.func 90) #[] #[.pointer (some ⟨g, 0, none⟩)]] w (RetV w (.int .i64 (idxS (fun x => samePl x y) l))) := by
  unfold big at hn
  have Hl := Lib.hid hl
  have Ha' := Lib.hid ha'
  have Hb' := Lib.hid hb'
  have Hc' := Lib.hid hc'
  have Hg := Lib.hid hg
  have hgl : g < w.heap.size := (Array.getElem?_eq_some_iff.1 hg).1
  clear hl ha' hb' hc' hg
  go_enter Tryd.func89, Tryd.ntmps89
  go_wp2
  go_loopw [8] (fun i wr => ∃ k : Nat, k ≤ l.length ∧ i = .int .i64 k ∧ (l.take k).any (fun x => samePl x y) = false ∧ Below w.heap.size w wr) (fun i _ => l.length - (intOf i).toNat)
  case atStart => exact ⟨0, by omega, rfl, rfl, Below.refl _ _⟩
  case round =>
    obtain ⟨k, hk, rfl, hno, hbel⟩ := hrel
    have Hbel := Lib.hid hbel
    have hbz := hbel.size
    have Hno := Lib.hid hno
    clear hbel hno
    by_cases hlt : k < l.length
    · obtain ⟨g2, off, A, a, B, b, C, c, rfl, _, hal, hc1, hc2, hc3, hc4, hs1, hs2, hs3, _, _, _⟩ := wrs_at (Hl.out.below wrR_stays Hbel.out) hlt
      have Hhere := Lib.hid (fun h => idx_here (q := fun x => samePl x y) hlt Hno.out h)
      have Hnext := Lib.hid (fun h => any_next (q := fun x => samePl x y) hlt Hno.out h)
      generalize l[k] = x at *
      have Hs1 := Lib.hid hs1.bz
      have Hs2 := Lib.hid hs2.bz
      have Hs3 := Lib.hid hs3.bz
      clear hs1 hs2 hs3
      rcases Bool.eq_false_or_eq_true (samePl x y) with hq | hq
      · have Hh := Lib.hid (Hhere.out hq)
        have Hq := Lib.hid hq
        clear Hhere Hnext hq
        go_wp2_with (go_at_call 90; refine (wri1_ok _ g A B C A' B' C' x y a b c a' b' c' Hs1.out Hs2.out Hs3.out (Ha'.out.bbelow Hbel.out) (Hb'.out.bbelow Hbel.out) (Hc'.out.bbelow Hbel.out) ((Hbel.out.block _ hgl).trans Hg.out)).mono ?_; rintro e w1 ⟨rfl, hb1⟩; rw [Hq.out])
        go_ret
        exact ⟨ret_int (by rw [Hh.out]), Hbel.out.next hb1 hbz⟩
      · have Hh := Lib.hid (Hnext.out hq)
        have Hq := Lib.hid hq
        clear Hhere Hnext hq
        go_wp2_with (go_at_call 90; refine (wri1_ok _ g A B C A' B' C' x y a b c a' b' c' Hs1.out Hs2.out Hs3.out (Ha'.out.bbelow Hbel.out) (Hb'.out.bbelow Hbel.out) (Hc'.out.bbelow Hbel.out) ((Hbel.out.block _ hgl).trans Hg.out)).mono ?_; rintro e w1 ⟨rfl, hb1⟩; rw [Hq.out])
        go_roundw
        case rel => exact ⟨k + 1, by omega, by go_num, Hh.out, Hbel.out.next hb1 hbz⟩
        case measure => simp [intOf]; omega
    · obtain rfl : k = l.length := by omega
      have hf := Hno.out
      rw [List.take_length] at hf
      have Hf := Lib.hid (idx_none hf)
      clear hf Hno
      go_wp2
      go_ret
      exact ⟨ret_int (by rw [Hf.out]), Hbel.out⟩
end Go.Proofs.YtjgdeeabejoegaaDoor
namespace Go.Proofs.YtjgdeeabejoegaaDoor
open Go.RowKit
set_option linter.unusedVariables false
set_option linter.unusedSimpArgs false

theorem placeAt_bad {fault : Wr → Int} {same : Wr → Wr → Bool} {l : List Wr} {k : Nat} (hk : k < l.length) (h : fault l[k] ≠ 0) : placeAt fault same l k = fault l[k] := by
  rw [placeAt_eq _ _ hk]
  unfold stepE
  rw [if_pos h]
theorem placeAt_any {fault : Wr → Int} {same : Wr → Wr → Bool} {l : List Wr} {k : Nat} (hk : k < l.length) (h : fault l[k] = 0) : placeAt fault same l k = if (l.take k).any (fun y => same y l[k]) then 3 else 0 := by
  rw [placeAt_eq _ _ hk]
  unfold stepE
  rw [if_neg (by simpa using h)]
theorem SL.first {α : Type} {size : Nat} {R : (Nat → Prop) → World → List Value → α → Prop} {S : Nat → Prop} {w : World} {A : Option Addr} {l : List α} (h : SL size R S w A l) (k : Nat) : SL size R S w A (l.take k) := by
  intro hl
  have hl' : 0 < l.length := by rw [List.length_take] at hl; omega
  obtain ⟨b, off, e, h0, hlt, hi⟩ := h hl'
  refine ⟨b, off, e, h0, hlt, fun i hil => ?_⟩
  have hil' : i < l.length := by rw [List.length_take] at hil; omega
  obtain ⟨cs, h1, h2, h3⟩ := hi i hil'
  exact ⟨cs, h1, h2, by rw [List.getElem_take]; exact h3⟩
set_option maxRecDepth 100000 in
set_option maxHeartbeats 4000000 in
theorem txnCheck_ok (w : World) (A B : Option Addr) (t : Tx) (n m : Nat) (ha : Ws All w A t.reads) (hb : Ws All w B t.writes) (hcn : t.reads.length ≤ n) (hcm : t.writes.length ≤ m) :
    Calls Tryd.prog 76 #[.agg #[.int .i64 t.start, .slice A t.reads.length n, .slice B t.writes.length m]] w (RetV w (.int .i64 (txnFaultS t))) := by
  have Ha := Lib.hid ha
  have Hb := Lib.hid hb
  have Hcn := Lib.hid hcn
  have Hcm := Lib.hid hcm
  clear ha hb hcn hcm
  by_cases h1 : 0 ≤ t.start ∧ t.start ≤ 1048576
  · have b1 : decide (t.start < 0) = false := by rw [decide_eq_false_iff_not]; omega
    have b1' : decide ((1048576 : Int) < t.start) = false := by rw [decide_eq_false_iff_not]; omega
    by_cases h2 : 20 < t.reads.length
    · have Hv := Lib.hid (show txnFaultS t = 1 by unfold txnFaultS; rw [if_neg (by simpa using h1), if_pos (.inl h2)])
      have b2 : decide ((20 : Int) < (t.reads.length : Int)) = true := by rw [decide_eq_true_eq]; omega
      clear h1
      go_enter Tryd.func76, Tryd.ntmps76
      go_wp2
      go_ret
      exact ⟨ret_int (by rw [Hv.out]), by repeat' (first | exact Below.refl _ _ | assumption | refine Below.drew ?_ | refine below_drewN ?_ _ | refine Below.setCell ?_ (by first | (simp; done) | omega | (simp; omega)) _ | refine Below.alloc ?_ (by first | exact Nat.le_refl _ | omega | (simp; done) | (simp; omega)) _)⟩
    · have b2 : decide ((20 : Int) < (t.reads.length : Int)) = false := by rw [decide_eq_false_iff_not]; omega
      by_cases h3 : 10 < t.writes.length
      · have Hv := Lib.hid (show txnFaultS t = 1 by unfold txnFaultS; rw [if_neg (by simpa using h1), if_pos (.inr h3)])
        have b3 : decide ((10 : Int) < (t.writes.length : Int)) = true := by rw [decide_eq_true_eq]; omega
        clear h1
        go_enter Tryd.func76, Tryd.ntmps76
        go_wp2
        go_ret
        exact ⟨ret_int (by rw [Hv.out]), by repeat' (first | exact Below.refl _ _ | assumption | refine Below.drew ?_ | refine below_drewN ?_ _ | refine Below.setCell ?_ (by first | (simp; done) | omega | (simp; omega)) _ | refine Below.alloc ?_ (by first | exact Nat.le_refl _ | omega | (simp; done) | (simp; omega)) _)⟩
      · have b3 : decide ((10 : Int) < (t.writes.length : Int)) = false := by rw [decide_eq_false_iff_not]; omega
        have Hbad := Lib.hid (show ∀ e : Int, e ≠ 0 → readsFaultS t.reads = e → txnFaultS t = e from fun e h4 h5 => by unfold txnFaultS; rw [if_neg (by simpa using h1), if_neg (by omega), if_pos (by rw [h5]; exact h4), h5])
        have Hgood := Lib.hid (show readsFaultS t.reads = 0 → txnFaultS t = writesFaultS t.writes from fun h5 => by unfold txnFaultS; rw [if_neg (by simpa using h1), if_neg (by omega), if_neg (by rw [h5]; decide)])
        have Hbx := Lib.hid (box_new w #[.int .i64 t.start, .slice A t.reads.length n, .slice B t.writes.length m] 77)
        have Hb0 := Lib.hid (show Below w.heap.size w (w.alloc (.cells #[.int .i64 t.start, .slice A t.reads.length n, .slice B t.writes.length m] 77)) from (Below.refl _ _).alloc (Nat.le_refl _) _)
        have Hz0 := Lib.hid (show w.heap.size < (w.alloc (.cells #[.int .i64 t.start, .slice A t.reads.length n, .slice B t.writes.length m] 77)).heap.size by simp)
        have h20 : t.reads.length ≤ 20 := by omega
        have h10 : t.writes.length ≤ 10 := by omega
        clear h1
        go_enter Tryd.func76, Tryd.ntmps76
        go_wp2
        clear b1 b2 b3 b1'
        generalize (w.alloc (.cells #[.int .i64 t.start, .slice A t.reads.length n, .slice B t.writes.length m] 77)) = w0 at *
        go_loopw [30] (fun i wr => ∃ k : Nat, k ≤ t.reads.length ∧ i = .int .i64 k ∧ firstBad (placeAt readFaultS sameRd t.reads) (t.reads.length - k) k = readsFaultS t.reads ∧ Below w0.heap.size w0 wr) (fun i _ => t.reads.length - (intOf i).toNat)
        case atStart => exact ⟨0, by omega, rfl, rfl, Below.refl _ _⟩
        case round =>
          obtain ⟨k, hk, rfl, hval, hbel⟩ := hrel
          have Hbel := Lib.hid hbel
          have Hval := Lib.hid hval
          have hbz := hbel.size
          have hz0 := Hz0.out
          have Hbxr := Lib.hid ((hbel.block _ Hz0.out).trans Hbx.out)
          have Hb1 := Lib.hid (Hb0.out.next hbel (by omega))
          clear hbel hval
          by_cases hlt : k < t.reads.length
          · have Hstep := Lib.hid (firstBad_at (placeAt readFaultS sameRd t.reads) hlt)
            obtain ⟨g, off, A1, a1, B1, b1, C1, c1, hX, _, hal, hc1, hc2, hc3, hc4, hs1, hs2, hs3, hb1, hb2, hb3⟩ := wrs_at (Ha.out.below wrR_stays Hb1.out) hlt
            have Hs1 := Lib.hid hs1.bz
            have Hs2 := Lib.hid hs2.bz
            have Hs3 := Lib.hid hs3.bz
            have Hxb := Lib.hid (show ∀ W, Below (wr.heap.size + 1) (wr.alloc (.cells #[.slice A1 t.reads[k].name.length a1, .slice B1 t.reads[k].key.length b1, .bool t.reads[k].flag, .slice C1 t.reads[k].value.length c1] 26)) W → W.heap[wr.heap.size]? = some (.cells #[.slice A1 t.reads[k].name.length a1, .slice B1 t.reads[k].key.length b1, .bool t.reads[k].flag, .slice C1 t.reads[k].value.length c1] 26 (0, 0)) ∧ Below wr.heap.size wr W ∧ wr.heap.size + 1 ≤ W.heap.size from fun W hW =>
              ⟨(hW.block _ (by omega)).trans (box_new wr _ _), ((Below.refl wr.heap.size wr).alloc (Nat.le_refl _) _).trans (hW.mono (by omega)), by simpa using hW.size⟩)
            subst hX
            clear hs1 hs2 hs3
            by_cases hf : readFaultS t.reads[k] = 0
            · have d1 : (readFaultS t.reads[k] != 0) = false := by simp [hf]
              have Hpl := Lib.hid (placeAt_any (same := sameRd) hlt hf)
              have hlen : (t.reads.take k).length = k := by rw [List.length_take]; omega
              have Hhas := Lib.hid (fun (W : World) (hW : Below w.heap.size w W) (g2 : Nat) (x : Wr) (h1 : Bs All W A1 x.name) (h2 : Bs All W B1 x.key) (h3 : Bs All W C1 x.value) (hg) => chk1_has W (some ⟨g, off, none⟩) (t.reads.take k) n g2 A1 B1 C1 x a1 b1 c1 ((Ha.out.below wrR_stays hW).first k) (by rw [hlen]; unfold big; omega) h1 h2 h3 hg)
              rw [hlen] at Hhas
              generalize t.reads[k] = x at *
              generalize hbb : (t.reads.take k).any (fun y => sameRd y x) = bb at *
              have Hbb := Lib.hid hbb
              clear hf hlen hbb
              have hkc : (k : Int) ≤ (n : Int) := by have := Hcn.out; omega
              have hk0 : (0 : Int) ≤ (k : Int) := by omega
              cases bb with
              | true =>
                go_wp2_with (first
                  | (go_at_call 77; refine (shape_ok _ A1 B1 C1 x a1 b1 c1).mono ?_; rintro e w1 ⟨rfl, hbw1⟩; have hk1 := hbw1.mono (show wr.heap.size + 1 ≤ (wr.alloc (.cells #[.slice A1 x.name.length a1, .slice B1 x.key.length b1, .bool x.flag, .slice C1 x.value.length c1] 26)).heap.size by simp); obtain ⟨hx1, hbw2, hz1⟩ := Hxb.out w1 hk1; have Hx1 := Lib.hid hx1; clear hx1 hbw1; obtain ⟨g0, g1, g2, _⟩ := box3 ((hbw2.block _ (by omega)).trans Hbxr.out))
                  | (go_at_call 79; refine (Hhas.out _ (Hb1.out.next hbw2 (by omega)) wr.heap.size x (Hs1.out.bbelow hbw2) (Hs2.out.bbelow hbw2) (Hs3.out.bbelow hbw2) Hx1.out).mono ?_; rintro e w2 ⟨rfl, hb2⟩; have hbw3 := hbw2.next hb2 (by omega); rw [Hbb.out]))
                go_ret
                exact ⟨ret_int (Eq.symm (Hbad.out 3 (by decide) (by rw [← Hval.out, Hstep.out, if_pos (by rw [Hpl.out]; decide), Hpl.out]; rfl))), Hb1.out.next hbw3 (by omega)⟩
              | false =>
                go_wp2_with (first
                  | (go_at_call 77; refine (shape_ok _ A1 B1 C1 x a1 b1 c1).mono ?_; rintro e w1 ⟨rfl, hbw1⟩; have hk1 := hbw1.mono (show wr.heap.size + 1 ≤ (wr.alloc (.cells #[.slice A1 x.name.length a1, .slice B1 x.key.length b1, .bool x.flag, .slice C1 x.value.length c1] 26)).heap.size by simp); obtain ⟨hx1, hbw2, hz1⟩ := Hxb.out w1 hk1; have Hx1 := Lib.hid hx1; clear hx1 hbw1; obtain ⟨g0, g1, g2, _⟩ := box3 ((hbw2.block _ (by omega)).trans Hbxr.out))
                  | (go_at_call 79; refine (Hhas.out _ (Hb1.out.next hbw2 (by omega)) wr.heap.size x (Hs1.out.bbelow hbw2) (Hs2.out.bbelow hbw2) (Hs3.out.bbelow hbw2) Hx1.out).mono ?_; rintro e w2 ⟨rfl, hb2⟩; have hbw3 := hbw2.next hb2 (by omega); rw [Hbb.out]))
                go_roundw
                case rel => exact ⟨k + 1, by omega, by go_num, by rw [← Hval.out, Hstep.out, if_neg (by rw [Hpl.out]; decide)], Hbel.out.next hbw3 (by omega)⟩
                case measure => simp [intOf]; omega
            · have d1 : (readFaultS t.reads[k] != 0) = true := by simpa using hf
              have Hpl := Lib.hid (placeAt_bad (same := sameRd) hlt hf)
              have Hf := Lib.hid hf
              generalize t.reads[k] = x at *
              clear hf
              go_wp2_with (go_at_call 77; refine (shape_ok _ A1 B1 C1 x a1 b1 c1).mono ?_; rintro e w1 ⟨rfl, hbw1⟩; have hk1 := hbw1.mono (show wr.heap.size + 1 ≤ (wr.alloc (.cells #[.slice A1 x.name.length a1, .slice B1 x.key.length b1, .bool x.flag, .slice C1 x.value.length c1] 26)).heap.size by simp); obtain ⟨hx1, hbw2, hz1⟩ := Hxb.out w1 hk1; have Hx1 := Lib.hid hx1; clear hx1 hbw1; obtain ⟨g0, g1, g2, _⟩ := box3 ((hbw2.block _ (by omega)).trans Hbxr.out))
              go_ret
              exact ⟨ret_int (Eq.symm (Hbad.out _ Hf.out (by rw [← Hval.out, Hstep.out, if_pos (by rw [Hpl.out]; exact Hf.out), Hpl.out]))), Hb1.out.next hbw2 (by omega)⟩
          · obtain rfl : k = t.reads.length := by omega
            have hfin := Hval.out
            rw [Nat.sub_self] at hfin
            have Hfin := Lib.hid (show readsFaultS t.reads = 0 from hfin.symm)
            clear hfin
            obtain ⟨g0, g1, g2, _⟩ := box3 Hbxr.out
            go_wp2
            have Hgd := Lib.hid (Hgood.out Hfin.out)
            have Hbst := Lib.hid Hbel.out
            clear Hval Hfin Hbxr hbz hz0 Hb1 g0 g1 g2 hlt hk Hbel
            obtain ⟨wn, rfl⟩ : ∃ wn : World, wn = wr := ⟨_, rfl⟩
            go_loopw [50] (fun i wr => ∃ k : Nat, k ≤ t.writes.length ∧ i = .int .i64 k ∧ firstBad (placeAt writeFaultS samePl t.writes) (t.writes.length - k) k = writesFaultS t.writes ∧ Below w0.heap.size w0 wr) (fun i _ => t.writes.length - (intOf i).toNat)
            case atStart => exact ⟨0, by omega, rfl, rfl, Hbst.out⟩
            case round =>
              obtain ⟨k, hk, rfl, hval, hbel⟩ := hrel
              have Hbel := Lib.hid hbel
              have Hval := Lib.hid hval
              have hbz := hbel.size
              have hz0 := Hz0.out
              have Hbxr := Lib.hid ((hbel.block _ Hz0.out).trans Hbx.out)
              have Hb1 := Lib.hid (Hb0.out.next hbel (by omega))
              clear hbel hval
              by_cases hlt : k < t.writes.length
              · have Hstep := Lib.hid (firstBad_at (placeAt writeFaultS samePl t.writes) hlt)
                obtain ⟨g, off, A1, a1, B1, b1, C1, c1, hX, _, hal, hc1, hc2, hc3, hc4, hs1, hs2, hs3, hb1, hb2, hb3⟩ := wrs_at (Hb.out.below wrR_stays Hb1.out) hlt
                have Hs1 := Lib.hid hs1.bz
                have Hs2 := Lib.hid hs2.bz
                have Hs3 := Lib.hid hs3.bz
                have Hxb := Lib.hid (show ∀ W, Below (wr.heap.size + 1) (wr.alloc (.cells #[.slice A1 t.writes[k].name.length a1, .slice B1 t.writes[k].key.length b1, .bool t.writes[k].flag, .slice C1 t.writes[k].value.length c1] 34)) W → W.heap[wr.heap.size]? = some (.cells #[.slice A1 t.writes[k].name.length a1, .slice B1 t.writes[k].key.length b1, .bool t.writes[k].flag, .slice C1 t.writes[k].value.length c1] 34 (0, 0)) ∧ Below wr.heap.size wr W ∧ wr.heap.size + 1 ≤ W.heap.size from fun W hW =>
                  ⟨(hW.block _ (by omega)).trans (box_new wr _ _), ((Below.refl wr.heap.size wr).alloc (Nat.le_refl _) _).trans (hW.mono (by omega)), by simpa using hW.size⟩)
                subst hX
                clear hs1 hs2 hs3
                by_cases hf : writeFaultS t.writes[k] = 0
                · have d1 : (writeFaultS t.writes[k] != 0) = false := by simp [hf]
                  have Hpl := Lib.hid (placeAt_any (same := samePl) hlt hf)
                  have hlen : (t.writes.take k).length = k := by rw [List.length_take]; omega
                  have Hhas := Lib.hid (fun (W : World) (hW : Below w.heap.size w W) (g2 : Nat) (x : Wr) (h1 : Bs All W A1 x.name) (h2 : Bs All W B1 x.key) (h3 : Bs All W C1 x.value) (hg) => chk2_has W (some ⟨g, off, none⟩) (t.writes.take k) m g2 A1 B1 C1 x a1 b1 c1 ((Hb.out.below wrR_stays hW).first k) (by rw [hlen]; unfold big; omega) h1 h2 h3 hg)
                  rw [hlen] at Hhas
                  generalize t.writes[k] = x at *
                  generalize hbb : (t.writes.take k).any (fun y => samePl y x) = bb at *
                  have Hbb := Lib.hid hbb
                  clear hf hlen hbb
                  have hkc : (k : Int) ≤ (m : Int) := by have := Hcm.out; omega
                  have hk0 : (0 : Int) ≤ (k : Int) := by omega
                  cases bb with
                  | true =>
                    go_wp2_with (first
                      | (go_at_call 87; refine (txnWriteOne_ok _ A1 B1 C1 x a1 b1 c1 (Hs1.out.bbelow ((Below.refl _ _).alloc (Nat.le_refl _) _)) (Hs2.out.bbelow ((Below.refl _ _).alloc (Nat.le_refl _) _)) (Hs3.out.bbelow ((Below.refl _ _).alloc (Nat.le_refl _) _)) hb1 hb2 hb3).mono ?_; rintro e w1 ⟨rfl, hbw1⟩; have hk1 := hbw1.mono (show wr.heap.size + 1 ≤ (wr.alloc (.cells #[.slice A1 x.name.length a1, .slice B1 x.key.length b1, .bool x.flag, .slice C1 x.value.length c1] 34)).heap.size by simp); obtain ⟨hx1, hbw2, hz1⟩ := Hxb.out w1 hk1; have Hx1 := Lib.hid hx1; clear hx1 hbw1; obtain ⟨g0, g1, g2, _⟩ := box3 ((hbw2.block _ (by omega)).trans Hbxr.out))
                      | (go_at_call 117; refine (Hhas.out _ (Hb1.out.next hbw2 (by omega)) wr.heap.size x (Hs1.out.bbelow hbw2) (Hs2.out.bbelow hbw2) (Hs3.out.bbelow hbw2) Hx1.out).mono ?_; rintro e w2 ⟨rfl, hb2⟩; have hbw3 := hbw2.next hb2 (by omega); rw [Hbb.out]))
                    go_ret
                    exact ⟨ret_int (by rw [Hgd.out, ← Hval.out, Hstep.out, if_pos (by rw [Hpl.out]; decide), Hpl.out]; rfl), Hb1.out.next hbw3 (by omega)⟩
                  | false =>
                    go_wp2_with (first
                      | (go_at_call 87; refine (txnWriteOne_ok _ A1 B1 C1 x a1 b1 c1 (Hs1.out.bbelow ((Below.refl _ _).alloc (Nat.le_refl _) _)) (Hs2.out.bbelow ((Below.refl _ _).alloc (Nat.le_refl _) _)) (Hs3.out.bbelow ((Below.refl _ _).alloc (Nat.le_refl _) _)) hb1 hb2 hb3).mono ?_; rintro e w1 ⟨rfl, hbw1⟩; have hk1 := hbw1.mono (show wr.heap.size + 1 ≤ (wr.alloc (.cells #[.slice A1 x.name.length a1, .slice B1 x.key.length b1, .bool x.flag, .slice C1 x.value.length c1] 34)).heap.size by simp); obtain ⟨hx1, hbw2, hz1⟩ := Hxb.out w1 hk1; have Hx1 := Lib.hid hx1; clear hx1 hbw1; obtain ⟨g0, g1, g2, _⟩ := box3 ((hbw2.block _ (by omega)).trans Hbxr.out))
                      | (go_at_call 117; refine (Hhas.out _ (Hb1.out.next hbw2 (by omega)) wr.heap.size x (Hs1.out.bbelow hbw2) (Hs2.out.bbelow hbw2) (Hs3.out.bbelow hbw2) Hx1.out).mono ?_; rintro e w2 ⟨rfl, hb2⟩; have hbw3 := hbw2.next hb2 (by omega); rw [Hbb.out]))
                    go_roundw
                    case rel => exact ⟨k + 1, by omega, by go_num, by rw [← Hval.out, Hstep.out, if_neg (by rw [Hpl.out]; decide)], Hbel.out.next hbw3 (by omega)⟩
                    case measure => simp [intOf]; omega
                · have d1 : (writeFaultS t.writes[k] != 0) = true := by simpa using hf
                  have Hpl := Lib.hid (placeAt_bad (same := samePl) hlt hf)
                  have Hf := Lib.hid hf
                  generalize t.writes[k] = x at *
                  clear hf
                  go_wp2_with (go_at_call 87; refine (txnWriteOne_ok _ A1 B1 C1 x a1 b1 c1 (Hs1.out.bbelow ((Below.refl _ _).alloc (Nat.le_refl _) _)) (Hs2.out.bbelow ((Below.refl _ _).alloc (Nat.le_refl _) _)) (Hs3.out.bbelow ((Below.refl _ _).alloc (Nat.le_refl _) _)) hb1 hb2 hb3).mono ?_; rintro e w1 ⟨rfl, hbw1⟩; have hk1 := hbw1.mono (show wr.heap.size + 1 ≤ (wr.alloc (.cells #[.slice A1 x.name.length a1, .slice B1 x.key.length b1, .bool x.flag, .slice C1 x.value.length c1] 34)).heap.size by simp); obtain ⟨hx1, hbw2, hz1⟩ := Hxb.out w1 hk1; have Hx1 := Lib.hid hx1; clear hx1 hbw1; obtain ⟨g0, g1, g2, _⟩ := box3 ((hbw2.block _ (by omega)).trans Hbxr.out))
                  go_ret
                  exact ⟨ret_int (by rw [Hgd.out, ← Hval.out, Hstep.out, if_pos (by rw [Hpl.out]; exact Hf.out), Hpl.out]), Hb1.out.next hbw2 (by omega)⟩
              · obtain rfl : k = t.writes.length := by omega
                have hfin := Hval.out
                rw [Nat.sub_self] at hfin
                have Hfin := Lib.hid (show writesFaultS t.writes = 0 from hfin.symm)
                clear hfin
                obtain ⟨g0, g1, g2, _⟩ := box3 Hbxr.out
                go_wp2
                go_ret
                exact ⟨ret_int (by rw [Hgd.out, Hfin.out]), Hb1.out⟩
  · have Hv := Lib.hid (show txnFaultS t = 2 by unfold txnFaultS; rw [if_pos h1])
    by_cases h3 : t.start < 0
    · have b1 : decide (t.start < 0) = true := by rw [decide_eq_true_eq]; exact h3
      clear h1 h3
      go_enter Tryd.func76, Tryd.ntmps76
      go_wp2
      go_ret
      exact ⟨ret_int (by rw [Hv.out]), by repeat' (first | exact Below.refl _ _ | assumption | refine Below.drew ?_ | refine below_drewN ?_ _ | refine Below.setCell ?_ (by first | (simp; done) | omega | (simp; omega)) _ | refine Below.alloc ?_ (by first | exact Nat.le_refl _ | omega | (simp; done) | (simp; omega)) _)⟩
    · have b1 : decide (t.start < 0) = false := by rw [decide_eq_false_iff_not]; exact h3
      have b1' : decide ((1048576 : Int) < t.start) = true := by rw [decide_eq_true_eq]; omega
      clear h1 h3
      go_enter Tryd.func76, Tryd.ntmps76
      go_wp2
      go_ret
      exact ⟨ret_int (by rw [Hv.out]), by repeat' (first | exact Below.refl _ _ | assumption | refine Below.drew ?_ | refine below_drewN ?_ _ | refine Below.setCell ?_ (by first | (simp; done) | omega | (simp; omega)) _ | refine Below.alloc ?_ (by first | exact Nat.le_refl _ | omega | (simp; done) | (simp; omega)) _)⟩
end Go.Proofs.YtjgdeeabejoegaaDoor
namespace Go.Proofs.YtjgdeeabejoegaaDoor
open Go.RowKit
set_option linter.unusedVariables false
set_option linter.unusedSimpArgs false

set_option maxRecDepth 100000 in
set_option maxHeartbeats 4000000 in
theorem txnWrites_own (w : World) (A : Option Addr) (l : List Wr) (c : Nat) (ha : Ws All w A l) (hn : l.length * 80 ≤ 140737488355328) :
    Calls Tryd.prog 88 #[.slice A l.length c] w (RetOwnWs 34 w l) := by
  obtain ⟨i0, hi0, hz0, hz1, hz2⟩ := info_parts info_wr
  have Ha := Lib.hid ha
  clear ha
  go_enter Tryd.func88, Tryd.ntmps88
  go_wp2
  go_loopw [3, 8] (fun v i wr => ∃ k : Nat, k ≤ l.length ∧ i = .int .i64 k ∧ Own 4 WrR (From w.heap.size) wr w.heap.size 34 v (l.take k) ∧ Below w.heap.size w wr) (fun _ i _ => l.length - (intOf i).toNat)
  case atStart => exact ⟨0, by omega, rfl, Own.nil _ _ _, Below.refl _ _⟩
  case round =>
    obtain ⟨k, hk, rfl, hown, hbel⟩ := hrel
    have Hbel := Lib.hid hbel
    have Hown := Lib.hid hown
    have hbz := hbel.size
    clear hown hbel
    by_cases hlt : k < l.length
    · obtain ⟨g, off, A1, a1, B1, b1, C1, c1, rfl, _, hal, hc1, hc2, hc3, hc4, hs1, hs2, hs3, hb1, hb2, hb3⟩ := wrs_at (Ha.out.below wrR_stays Hbel.out) hlt
      have Hsn := Lib.hid (take_snoc l k hlt)
      generalize l[k] = x at *
      have Hs1 := Lib.hid hs1.bz
      have Hs2 := Lib.hid hs2.bz
      have Hs3 := Lib.hid hs3.bz
      clear hs1 hs2 hs3
      go_wp2_with fail
      go_region_held3 (fun w' => w'.cell? ⟨wr.heap.size, 0, none⟩ = some (.slice A1 x.name.length a1) ∧ w'.cell? ⟨wr.heap.size, 1, none⟩ = some (.slice B1 x.key.length b1) ∧ w'.cell? ⟨wr.heap.size, 2, none⟩ = some (.bool x.flag) ∧ w'.cell? ⟨wr.heap.size, 3, none⟩ = some (.slice C1 x.value.length c1))
        (first
          | go_keep
          | exact ⟨p0, p1, p2, p3⟩
          | exact ⟨q0, q1, q2, q3⟩
          | exact ⟨r0, r1, r2, r3⟩
          | exact ⟨s0, s1, s2, s3⟩)
        (first
        | (go_at_call 61; (with_reducible refine (clone_ok _ A1 x.name a1 ?ha hb1).mono ?_); (case ha => exact Hs1.out.bsame (by repeat' (first | exact Same.refl _ _ | assumption | refine Same.drew ?_ | refine Same.drewN ?_ _ | refine Same.alloc ?_ _ | refine Same.setCell ?_ (fun hq => by simp only [From] at hq; first | omega | (simp at hq; done) | (simp at hq; omega)) _))); rintro e w6 ⟨A6, c6, rfl, gs6, hbw6⟩; have hb6 : Below wr.heap.size wr w6 := (((Below.refl wr.heap.size wr).alloc (Nat.le_refl _) _).drew).next hbw6 (by simp); have hz6 : wr.heap.size < w6.heap.size := (by have := hbw6.size; simp at this; omega); have hbp6 : w6.heap[wr.heap.size]? = some (.cells #[.slice A1 x.name.length a1, .slice B1 x.key.length b1, .bool x.flag, .slice C1 x.value.length c1] 34 (0, 0)) := (hbw6.block wr.heap.size (by first | (simp; done) | omega | (simp; omega))).trans (box_new wr _ _); obtain ⟨p0, p1, p2, p3, _⟩ := box4 hbp6)
        | (go_at_call 61; (with_reducible refine (clone_ok _ B1 x.key b1 ?ha hb2).mono ?_); (case ha => exact Hs2.out.bbelow hb6); rintro e w7 ⟨A7, c7, rfl, gs7, hbw7⟩; have hb7 : Below wr.heap.size wr w7 := hb6.next hbw7 (by first | exact Nat.le_refl _ | omega | (simp; done) | (simp; omega)); have hz67 : w6.heap.size ≤ w7.heap.size := hbw7.size; have hz7 : wr.heap.size < w7.heap.size := (by omega); have hbp7 := (hbw7.block _ hz6).trans hbp6; obtain ⟨q0, q1, q2, q3, _⟩ := box4 hbp7)
        | (go_at_call 61; (with_reducible refine (clone_ok _ C1 x.value c1 ?ha hb3).mono ?_); (case ha => exact Hs3.out.bbelow hb7); rintro e w8 ⟨A8, c8, rfl, gs8, hbw8⟩; have hb8 : Below wr.heap.size wr w8 := hb7.next hbw8 (by first | exact Nat.le_refl _ | omega | (simp; done) | (simp; omega)); have hz78 : w7.heap.size ≤ w8.heap.size := hbw8.size; have hbp8 := (hbw8.block _ hz7).trans hbp7; obtain ⟨r0, r1, r2, r3, _⟩ := box4 hbp8)
        | (refine step_snocG wrR_stays (S := From w.heap.size) _ rfl (.tmp 12) (.tmp 25) _ rfl w.heap.size 34 i0 _ 4 80 Tryd.underlying38 hi0 hz0 hz1 hz2 rfl (by decide) u3 (l.take k) ?hs ?hown (some ⟨w8.heap.size, 0, none⟩) 1 [.slice A6 x.name.length c6, .slice A7 x.key.length c7, .bool x.flag, .slice A8 x.value.length c8] ?hx rfl (new_src w8 w8.heap.size [.slice A6 x.name.length c6, .slice A7 x.key.length c7, .bool x.flag, .slice A8 x.value.length c8] _ rfl) (by simp [Value.oneCell']) ?hm ?hby ?hba x ?hd ?_; (case hs => (simp [Act.eval, Act.put])); (case hx => (simp [Act.eval, Act.put])); (case hown => (refine Own.below wrR_stays Hown.out ?_; exact (hb8.alloc (by first | exact Nat.le_refl _ | omega | (simp; done) | (simp; omega)) _))); (case hm => (simp only [List.length_take, maxLen]; omega)); (case hby => (simp only [List.length_take]; omega)); (case hba => (simp; omega)); (case hd => (refine wr_fresh (n := wr.heap.size) ((gs6.bbelow hbw7).bbelow hbw8 |>.blo (by first | exact Nat.le_refl _ | omega | (simp; done) | (simp; omega))) (gs7.bbelow hbw8 |>.blo (by first | exact Nat.le_refl _ | omega | (simp; done) | (simp; omega))) (gs8.blo (by first | exact Nat.le_refl _ | omega | (simp; done) | (simp; omega))) hb1 hb2 hb3 ?_ (by first | exact Nat.le_refl _ | omega | (simp; done) | (simp; omega)) (Hown.out.apart _ (Nat.le_refl _)); repeat' (first | exact Same.refl _ _ | assumption | refine Same.drew ?_ | refine Same.drewN ?_ _ | refine Same.alloc ?_ _ | refine Same.setCell ?_ (fun hq => by simp only [From] at hq; first | omega | (simp at hq; done) | (simp at hq; omega)) _))); intro v9 w9 hown9 hbw9 hgr9; have Hown9 := Lib.hid hown9; have hbp9 := (hgr9.block wr.heap.size (by simp; omega) (fun e => Hown.out.apart _ (Nat.le_refl _) _ (Nat.le_refl _) e.symm)).trans ((heap_alloc_old _ _ (by omega)).trans hbp8); obtain ⟨s0, s1, s2, s3, _⟩ := box4 hbp9; clear hown9))
      all_goals
        go_wp2
        go_roundw
        case rel => exact ⟨k + 1, by omega, by go_num, by rw [Hsn.out]; exact Hown9.out, ((Hbel.out.trans (hb8.mono hbz)).alloc (by omega) _).trans hbw9⟩
        case measure => simp [intOf]; omega
    · go_wp2
      go_ret
      obtain rfl : k = l.length := by omega
      have h := Hown.out
      rw [List.take_length] at h
      exact ⟨_, rfl, h, Hbel.out⟩
/-- The variable 'out' of own at block G. -/
structure OutAt (w : World) (A B : Option Addr) (n m : Nat) (B1 : Option Addr) (m1 : Nat) (t : Tx) (W : World) (G : Nat) : Prop where
  x : W.heap[w.heap.size]? = some (.cells #[.int .i64 t.start, .slice A t.reads.length n, .slice B t.writes.length m] 77 (0, 0))
  y : W.heap[w.heap.size + 1]? = some (.cells #[.int .i64 0, .slice none 0 0, .slice none 0 0] 77 (0, 0))
  z : W.heap[G]? = some (.cells #[.int .i64 t.start, .slice none 0 0, .slice B1 t.writes.length m1] 77 (0, 0))
  lo : w.heap.size + 2 ≤ G
  hi : G < W.heap.size
  b : Below w.heap.size w W
  s : Own 4 WrR (fun b => w.heap.size + 2 ≤ b ∧ b ≠ G) W (w.heap.size + 2) 34 (.slice B1 t.writes.length m1) t.writes
  g : blk B1 ≠ some G
def RetOwnSl (w : World) (l : List Wr) (e : Ending) (w' : World) : Prop :=
  ∃ A c, e = .returned (.slice A l.length c) ∧ l.length ≤ c ∧ Own 4 WrR (From w.heap.size) w' w.heap.size 34 (.slice A l.length c) l ∧ Below w.heap.size w w'
theorem txnWrites_ok (w : World) (A : Option Addr) (l : List Wr) (c : Nat) (ha : Ws All w A l) (hn : l.length * 80 ≤ 140737488355328) :
    Calls Tryd.prog 88 #[.slice A l.length c] w (RetOwnSl w l) :=
  (txnWrites_own w A l c ha hn).mono fun e w' ⟨v, he, hown, hb⟩ => by
    obtain ⟨A', c', rfl, hc, hs⟩ := hown.readc wrR_stays
    exact ⟨A', c', he, hc, hown, hb⟩
theorem Own.blt {α : Type} {size : Nat} {R : (Nat → Prop) → World → List Value → α → Prop} {S : Nat → Prop} {w : World} {base : Nat} {e : TypeId} {A : Option Addr} {l : List α} {n c : Nat} (h : Own size R S w base e (.slice A n c) l) : ∀ b, blk A = some b → base ≤ b ∧ b < w.heap.size := fun b hb => by
  obtain ⟨xs, h1, _⟩ := h
  exact h1.lt b (by rw [own_blk]; exact hb)
set_option maxRecDepth 100000 in
set_option maxHeartbeats 8000000 in
theorem txnOwn_own (w : World) (A B : Option Addr) (t : Tx) (n m : Nat) (ha : Ws All w A t.reads) (hb : Ws All w B t.writes) (hn : t.reads.length * 80 ≤ 140737488355328) (hm : t.writes.length * 80 ≤ 140737488355328) :
    Calls Tryd.prog 78 #[.agg #[.int .i64 t.start, .slice A t.reads.length n, .slice B t.writes.length m]] w (RetTxO w t) := by
  obtain ⟨i0, hi0, hz0, hz1, hz2⟩ := info_parts info_rd
  have Ha := Lib.hid ha
  have Hb := Lib.hid hb
  clear ha hb
  obtain ⟨hx, hy, hsz, hbl⟩ := alloc2 w (.cells #[.int .i64 t.start, .slice A t.reads.length n, .slice B t.writes.length m] 77) (.cells #[.int .i64 0, .slice none 0 0, .slice none 0 0] 77)
  obtain ⟨g0, g1, g2, _⟩ := box3 hx
  have Hx := Lib.hid hx
  have Hy := Lib.hid hy
  have Hbl := Lib.hid hbl
  have Hsz := Lib.hid hsz
  have Hz2 := Lib.hid (show (((w.alloc (.cells #[.int .i64 t.start, .slice A t.reads.length n, .slice B t.writes.length m] 77)).alloc (.cells #[.int .i64 0, .slice none 0 0, .slice none 0 0] 77)).drew.alloc (.cells #[.int .i64 0, .slice none 0 0, .slice none 0 0] 77)).heap[w.heap.size + 2]? = some (.cells #[.int .i64 0, .slice none 0 0, .slice none 0 0] 77) by have := heap_alloc_new ((w.alloc (.cells #[.int .i64 t.start, .slice A t.reads.length n, .slice B t.writes.length m] 77)).alloc (.cells #[.int .i64 0, .slice none 0 0, .slice none 0 0] 77)).drew (.cells #[.int .i64 0, .slice none 0 0, .slice none 0 0] 77); simpa using this)
  clear hx hy hbl hsz
  go_enter Tryd.func78, Tryd.ntmps78
  go_wp2_with fail
  go_region_held3 (fun w' => w'.cell? ⟨w.heap.size, 0, none⟩ = some (.int .i64 t.start) ∧ w'.cell? ⟨w.heap.size, 1, none⟩ = some (.slice A t.reads.length n) ∧ w'.cell? ⟨w.heap.size, 2, none⟩ = some (.slice B t.writes.length m))
    (first
      | go_keep
      | exact ⟨q0, q1, q2⟩
      | (go_split_ands; exact ⟨(((Below.refl _ w1).alloc (Nat.le_refl _) _).cell hzp).trans (by assumption), (((Below.refl _ w1).alloc (Nat.le_refl _) _).cell hzp).trans (by assumption), (((Below.refl _ w1).alloc (Nat.le_refl _) _).cell hzp).trans (by assumption)⟩)
      | (go_split_ands; exact ⟨(((((Below.refl (w.heap.size + 1 + 1) w1).setCell (Nat.le_refl _) _).setCell (Nat.le_refl _) _).setCell (Nat.le_refl _) _).cell (by first | (simp; done) | omega | (simp; omega))).trans (by assumption), (((((Below.refl (w.heap.size + 1 + 1) w1).setCell (Nat.le_refl _) _).setCell (Nat.le_refl _) _).setCell (Nat.le_refl _) _).cell (by first | (simp; done) | omega | (simp; omega))).trans (by assumption), (((((Below.refl (w.heap.size + 1 + 1) w1).setCell (Nat.le_refl _) _).setCell (Nat.le_refl _) _).setCell (Nat.le_refl _) _).cell (by first | (simp; done) | omega | (simp; omega))).trans (by assumption)⟩))
    ((go_at_call 88; (with_reducible refine (txnWrites_ok _ B t.writes m ?hx hm).mono ?_); (case hx => (refine (Hb.out.below wrR_stays Hbl.out).same wrR_stays ?_; repeat' (first | exact Same.refl _ _ | assumption | refine Same.drew ?_ | refine Same.drewN ?_ _ | refine Same.alloc ?_ _ | refine Same.setCell ?_ (fun hq => by simp only [From] at hq; first | omega | (simp at hq; done) | (simp at hq; omega)) _))); rintro e w1 ⟨B1, m1, rfl, hc1, hs1, hb1⟩; have hx1 : w1.heap[w.heap.size]? = some (.cells #[.int .i64 t.start, .slice A t.reads.length n, .slice B t.writes.length m] 77 (0, 0)) := (hb1.block w.heap.size (by first | (simp; done) | omega | (simp; omega))).trans (by first | exact Hx.out | exact (heap_alloc_old _ _ (by first | (simp; done) | omega | (simp; omega))).trans Hx.out); have hy1 : w1.heap[w.heap.size + 1]? = some (.cells #[.int .i64 0, .slice none 0 0, .slice none 0 0] 77 (0, 0)) := (hb1.block (w.heap.size + 1) (by first | (simp; done) | omega | (simp; omega))).trans (by first | exact Hy.out | exact (heap_alloc_old _ _ (by first | (simp; done) | omega | (simp; omega))).trans Hy.out); obtain ⟨q0, q1, q2, _⟩ := box3 hx1; have hzp : w.heap.size < w1.heap.size := (by have hq1 := hb1.size; simp at hq1; omega); (try (have hz2 : w1.heap[w.heap.size + 2]? = some (.cells #[.int .i64 0, .slice none 0 0, .slice none 0 0] 77 (0, 0)) := (hb1.block (w.heap.size + 2) (by first | (simp; done) | omega | (simp; omega))).trans Hz2.out; obtain ⟨e0, e1, e2, e3, e4, e5⟩ := box3 hz2; have hzl : w.heap.size + 1 + 1 < w1.heap.size := (by have hq1 := hb1.size; simp at hq1; omega)))))
  · go_wp2_with fail
    have hF : OutAt w A B n m B1 m1 t (w1.alloc (.cells #[.int .i64 t.start, .slice none 0 0, .slice B1 t.writes.length m1] 77)) w1.heap.size := by
      have hq1 := hb1.size
      simp at hq1
      have hlt1 := hs1.blt
      simp at hlt1
      refine ⟨(heap_alloc_old _ _ hzp).trans hx1, (heap_alloc_old _ _ (by omega)).trans hy1, box_new w1 _ _, by omega, by simp, ?_, ?_, fun h => by have := hlt1 _ h; omega⟩
      · exact (Hbl.out.drew.next hb1 (by first | (simp; done) | omega | (simp; omega))).alloc (by omega) _
      · exact hs1.keep wrR_stays (T := All) ((Same.refl _ _).alloc _) (fun _ _ _ => trivial) (fun _ _ => trivial) (fun b hb h => ⟨by simp only [From] at h; simp at h; omega, by omega⟩) (by simp)
    have HF := Lib.hid hF
    clear hF hb1 hs1 hx1 hy1 q0 q1 q2 hzp
    generalize w1.alloc (.cells #[.int .i64 t.start, .slice none 0 0, .slice B1 t.writes.length m1] 77) = W0 at *
    generalize w1.heap.size = G at *
    have hlo := HF.out.lo
    have hhi := HF.out.hi
    go_loopw [15] (fun i wr => ∃ (k : Nat) (v : Value), k ≤ t.reads.length ∧ i = .int .i64 k ∧ Own 4 WrR (From W0.heap.size) wr W0.heap.size 26 v (t.reads.take k) ∧ wr.heap[G]? = some (.cells #[.int .i64 t.start, v, .slice B1 t.writes.length m1] 77 (0, 0)) ∧ Below w.heap.size W0 wr ∧ Same (fun b => b < W0.heap.size ∧ b ≠ G) W0 wr) (fun i _ => t.reads.length - (intOf i).toNat)
    case atStart => exact ⟨0, _, by omega, rfl, Own.nil _ _ _, HF.out.z, Below.refl _ _, Same.refl _ _⟩
    case round =>
      obtain ⟨k, v, hk, rfl, hown, hcx, hbel, hsm⟩ := hrel
      have Hbel := Lib.hid hbel
      have Hown := Lib.hid hown
      have Hcx := Lib.hid hcx
      have Hsm := Lib.hid hsm
      have hbz := hbel.size
      have Hbw := Lib.hid (HF.out.b.trans hbel)
      clear hown hbel hcx hsm
      by_cases hlt : k < t.reads.length
      · obtain ⟨g, off, A1, a1, B2, b2, C1, c1, rfl, _, hal, hc1, hc2, hc3, hc4, hs1, hs2, hs3, hb1, hb2, hb3⟩ := wrs_at (Ha.out.below wrR_stays Hbw.out) hlt
        have Hsn := Lib.hid (take_snoc t.reads k hlt)
        have hl8 : (t.reads.take k ++ [t.reads[k]]).length = k + 1 := by rw [List.length_append, List.length_take, List.length_singleton]; omega
        generalize t.reads[k] = x at *
        have Hs1 := Lib.hid hs1.bz
        have Hs2 := Lib.hid hs2.bz
        have Hs3 := Lib.hid hs3.bz
        have hGr : G < wr.heap.size := by omega
        have hbox : (wr.alloc (.cells #[.slice A1 x.name.length a1, .slice B2 x.key.length b2, .bool x.flag, .slice C1 x.value.length c1] 26)).heap[G]? = some (.cells #[.int .i64 t.start, v, .slice B1 t.writes.length m1] 77 (0, 0)) := by rw [heap_alloc_old _ _ hGr]; exact Hcx.out
        obtain ⟨gc0, gc1, gc2, _⟩ := box3 hbox
        have Hbox := Lib.hid hbox
        clear hbox hs1 hs2 hs3
        go_wp2_with fail
        go_region_law (first
          | (go_simp; go_at_call 82; (with_reducible refine (txnRead_ok _ A1 B2 C1 x a1 b2 c1 ?h1 ?h2 ?h3 hb1 hb2 hb3).mono ?_); (case h1 => exact Hs1.out.bsame (by repeat' (first | exact Same.refl _ _ | assumption | refine Same.drew ?_ | refine Same.drewN ?_ _ | refine Same.alloc ?_ _ | refine Same.setCell ?_ (fun hq => by simp only [From] at hq; first | omega | (simp at hq; done) | (simp at hq; omega)) _))); (case h2 => exact Hs2.out.bsame (by repeat' (first | exact Same.refl _ _ | assumption | refine Same.drew ?_ | refine Same.drewN ?_ _ | refine Same.alloc ?_ _ | refine Same.setCell ?_ (fun hq => by simp only [From] at hq; first | omega | (simp at hq; done) | (simp at hq; omega)) _))); (case h3 => exact Hs3.out.bsame (by repeat' (first | exact Same.refl _ _ | assumption | refine Same.drew ?_ | refine Same.drewN ?_ _ | refine Same.alloc ?_ _ | refine Same.setCell ?_ (fun hq => by simp only [From] at hq; first | omega | (simp at hq; done) | (simp at hq; omega)) _))); rintro e w6 ⟨A6, a6, B6, b6, C6, c6, rfl, gs1, gs2, gs3, hbw6⟩; have hb6 : Below wr.heap.size wr w6 := (((Below.refl wr.heap.size wr).alloc (Nat.le_refl _) _).drew).next hbw6 (by simp); have hz6 : wr.heap.size < w6.heap.size := (by have := hbw6.size; simp at this; omega); have hbx6 := (hb6.block G hGr).trans Hcx.out; obtain ⟨ga0, ga1, ga2, _⟩ := box3 hbx6; have hG6 : G < w6.heap.size := (by omega))
          | (refine step_snocG wrR_stays (S := From W0.heap.size) _ rfl (.tmp 20) (.tmp 23) _ rfl W0.heap.size 26 i0 _ 4 80 Tryd.underlying75 hi0 hz0 hz1 hz2 rfl (by decide) v (t.reads.take k) ?hs ?hown (some ⟨w6.heap.size, 0, none⟩) 1 [.slice A6 x.name.length a6, .slice B6 x.key.length b6, .bool x.flag, .slice C6 x.value.length c6] ?hx rfl (new_src w6 w6.heap.size [.slice A6 x.name.length a6, .slice B6 x.key.length b6, .bool x.flag, .slice C6 x.value.length c6] _ rfl) (by simp [Value.oneCell']) ?hm ?hby ?hba x ?hd ?_; (case hs => (simp [Act.eval, Act.put])); (case hx => (simp [Act.eval, Act.put])); (case hown => (refine Own.below wrR_stays Hown.out ?_; exact (hb6.alloc (by first | exact Nat.le_refl _ | omega | (simp; done) | (simp; omega)) _))); (case hm => (simp only [List.length_take, maxLen]; omega)); (case hby => (simp only [List.length_take]; omega)); (case hba => (simp; omega)); (case hd => (refine wr_fresh (n := wr.heap.size) (gs1.blo (by first | exact Nat.le_refl _ | omega | (simp; done) | (simp; omega))) (gs2.blo (by first | exact Nat.le_refl _ | omega | (simp; done) | (simp; omega))) (gs3.blo (by first | exact Nat.le_refl _ | omega | (simp; done) | (simp; omega))) hb1 hb2 hb3 ?_ (by first | exact Nat.le_refl _ | omega | (simp; done) | (simp; omega)) (Hown.out.apart _ (Nat.le_refl _)); repeat' (first | exact Same.refl _ _ | assumption | refine Same.drew ?_ | refine Same.drewN ?_ _ | refine Same.alloc ?_ _ | refine Same.setCell ?_ (fun hq => by simp only [From] at hq; first | omega | (simp at hq; done) | (simp at hq; omega)) _))); intro v8 w8 hown8 hbw8 hgr8; obtain ⟨A8, c8, rfl, _, _⟩ := hown8.readc wrR_stays; have Hown8 := Lib.hid hown8; clear hown8; have hbx8 : w8.heap[G]? = some (.cells #[.int .i64 t.start, v, .slice B1 t.writes.length m1] 77 (0, 0)) := (hbw8.block G hhi).trans ((heap_alloc_old _ _ hG6).trans hbx6); obtain ⟨ge0, ge1, ge2, ge3, ge4, ge5⟩ := box3 hbx8))
        all_goals
          go_wp2
          go_roundw
          case rel => exact ⟨k + 1, _, by omega, by go_num, by rw [Hsn.out]; exact Hown8.out.same_from wrR_stays ((Same.refl _ _).setCell (fun h => by simp only [From] at h; omega) _), by rw [heap_setCell_same _ _ _ _ _ _ hbx8, hl8]; rfl, (((Hbel.out.trans (hb6.mono (by omega))).alloc (by omega) _).trans (hbw8.mono (by omega))).setCell (by simp only []; omega) _, (((Hsm.out.trans (Same.of_below hb6)).alloc _).trans (Same.of_lt hbw8 (fun k h => h.1))).setCell (fun h => h.2 rfl) _⟩
          case measure => simp [intOf]; omega
      · obtain rfl : k = t.reads.length := by omega
        have hown3 := Hown.out
        rw [List.take_length] at hown3
        obtain ⟨A8, c8, rfl, hc8, _⟩ := hown3.readc wrR_stays
        have Hs8 := Lib.hid hown3
        obtain ⟨ge0, ge1, ge2, _⟩ := box3 Hcx.out
        obtain ⟨gh0, gh1, gh2, gh3, gh4, gh5⟩ := box3 ((Hsm.out.block (w.heap.size + 1) ⟨by omega, by omega⟩ (by omega)).trans HF.out.y)
        have hzr : w.heap.size + 1 < wr.heap.size := by omega
        clear hown3 Hown
        go_wp2
        have hlt8 := Hs8.out.blt
        have hlt1 := HF.out.s.blt
        have hg1 := HF.out.g
        refine bodyPost_ret (v := .agg #[.int .i64 t.start, .slice A8 t.reads.length c8, .slice B1 t.writes.length m1]) (by simp [results, Tryd.results78, go_sem, gh0, gh1, gh2]) rfl ⟨A8, c8, B1, m1, rfl, ⟨hc8, hc1, ?_, ?_, ?_⟩, ?_⟩
        · refine Hs8.out.keep wrR_stays (T := From W0.heap.size) ?_ (fun b _ h => h) (fun b hb => (hlt8 b (by rw [← own_blk A8]; exact hb)).1) (fun b _ h => ⟨by simp only [From] at *; omega, fun h7 => by have := hlt1 b h7; simp only [From] at h; omega⟩) (by omega)
          exact ((((Same.refl _ _).setCell (fun h => by simp only [From] at h; omega) _).setCell (fun h => by simp only [From] at h; omega) _).setCell (fun h => by simp only [From] at h; omega) _)
        · refine (HF.out.s.keep wrR_stays (T := fun b => b < W0.heap.size ∧ b ≠ G) (S2 := fun b => w.heap.size + 2 ≤ b ∧ b < W0.heap.size) (base' := w.heap.size) Hsm.out (fun b hb h => ⟨hb, h.2⟩) (fun b hb => ⟨(hlt1 b (by rw [← own_blk B1]; exact hb)).2, fun e => hg1 (by rw [own_blk] at hb; rw [hb, e])⟩) (fun b hb h => ⟨h.1, hb⟩) (by omega)).keep wrR_stays (T := From (w.heap.size + 2)) ?_ (fun b _ h => h.1) (fun b hb => (hlt1 b (by rw [← own_blk B1]; exact hb)).1) (fun b _ h => ⟨by simp only [From]; omega, fun h8 => by have := hlt8 b h8; omega⟩) (Nat.le_refl _)
          exact ((((Same.refl _ _).setCell (fun h => by simp only [From] at h; omega) _).setCell (fun h => by simp only [From] at h; omega) _).setCell (fun h => by simp only [From] at h; omega) _)
        · intro b h8 h1
          have := hlt8 b h8
          have := hlt1 b h1
          omega
        · exact (((Hbw.out.setCell (by simp only []; omega) _).setCell (by simp only []; omega) _).setCell (by simp only []; omega) _)
  · go_wp2_with fail
    have hF : OutAt w A B n m B1 m1 t (((w1.setCell ⟨w.heap.size + 1 + 1, 0, none⟩ (.int .i64 t.start)).setCell ⟨w.heap.size + 1 + 1, 1, none⟩ (.slice none 0 0)).setCell ⟨w.heap.size + 1 + 1, 2, none⟩ (.slice B1 t.writes.length m1)) (w.heap.size + 1 + 1) := by
      have hq1 := hb1.size
      simp at hq1
      have hlw : Below (w.heap.size + 1 + 1) w1 (((w1.setCell ⟨w.heap.size + 1 + 1, 0, none⟩ (.int .i64 t.start)).setCell ⟨w.heap.size + 1 + 1, 1, none⟩ (.slice none 0 0)).setCell ⟨w.heap.size + 1 + 1, 2, none⟩ (.slice B1 t.writes.length m1)) := (((Below.refl (w.heap.size + 1 + 1) w1).setCell (p := ⟨w.heap.size + 1 + 1, 0, none⟩) (Nat.le_refl _) _).setCell (p := ⟨w.heap.size + 1 + 1, 1, none⟩) (Nat.le_refl _) _).setCell (p := ⟨w.heap.size + 1 + 1, 2, none⟩) (Nat.le_refl _) _
      have hlt1 := hs1.blt
      simp at hlt1
      refine ⟨(hlw.block _ (by omega)).trans hx1, (hlw.block _ (by omega)).trans hy1, ?_, by omega, by simpa using hzl, ?_, ?_, fun h => by have := hlt1 _ h; omega⟩
      · rw [heap_setCell_same _ _ _ _ _ _ (heap_setCell_same _ _ _ _ _ _ (heap_setCell_same _ _ _ _ _ _ hz2))]
        rfl
      · exact ((Hbl.out.drew.alloc (by first | (simp; done) | omega | (simp; omega)) _).next hb1 (by first | (simp; done) | omega | (simp; omega))).trans (hlw.mono (by omega))
      · refine hs1.keep wrR_stays (T := fun b => b ≠ w.heap.size + 1 + 1) ?_ (fun b _ h => by simp only [From] at h; simp at h; omega) (fun b hb => by rw [own_blk] at hb; have := hlt1 b hb; omega) (fun b hb h => ⟨by simp only [From] at h; simp at h; omega, by simp only [From] at h; simp at h; omega⟩) (by simp)
        exact (((Same.refl _ _).setCell (fun h => h rfl) _).setCell (fun h => h rfl) _).setCell (fun h => h rfl) _
    have HF := Lib.hid hF
    clear hF hb1 hs1 hx1 hy1 q0 q1 q2 hzp hz2 hzl e0 e1 e2 e3 e4 e5
    generalize (((w1.setCell ⟨w.heap.size + 1 + 1, 0, none⟩ (.int .i64 t.start)).setCell ⟨w.heap.size + 1 + 1, 1, none⟩ (.slice none 0 0)).setCell ⟨w.heap.size + 1 + 1, 2, none⟩ (.slice B1 t.writes.length m1)) = W0 at *
    obtain ⟨G, hG⟩ : ∃ G, G = w.heap.size + 1 + 1 := ⟨_, rfl⟩
    rw [← hG] at HF ⊢
    clear hG
    have hlo := HF.out.lo
    have hhi := HF.out.hi
    go_loopw [15] (fun i wr => ∃ (k : Nat) (v : Value), k ≤ t.reads.length ∧ i = .int .i64 k ∧ Own 4 WrR (From W0.heap.size) wr W0.heap.size 26 v (t.reads.take k) ∧ wr.heap[G]? = some (.cells #[.int .i64 t.start, v, .slice B1 t.writes.length m1] 77 (0, 0)) ∧ Below w.heap.size W0 wr ∧ Same (fun b => b < W0.heap.size ∧ b ≠ G) W0 wr) (fun i _ => t.reads.length - (intOf i).toNat)
    case atStart => exact ⟨0, _, by omega, rfl, Own.nil _ _ _, HF.out.z, Below.refl _ _, Same.refl _ _⟩
    case round =>
      obtain ⟨k, v, hk, rfl, hown, hcx, hbel, hsm⟩ := hrel
      have Hbel := Lib.hid hbel
      have Hown := Lib.hid hown
      have Hcx := Lib.hid hcx
      have Hsm := Lib.hid hsm
      have hbz := hbel.size
      have Hbw := Lib.hid (HF.out.b.trans hbel)
      clear hown hbel hcx hsm
      by_cases hlt : k < t.reads.length
      · obtain ⟨g, off, A1, a1, B2, b2, C1, c1, rfl, _, hal, hc1, hc2, hc3, hc4, hs1, hs2, hs3, hb1, hb2, hb3⟩ := wrs_at (Ha.out.below wrR_stays Hbw.out) hlt
        have Hsn := Lib.hid (take_snoc t.reads k hlt)
        have hl8 : (t.reads.take k ++ [t.reads[k]]).length = k + 1 := by rw [List.length_append, List.length_take, List.length_singleton]; omega
        generalize t.reads[k] = x at *
        have Hs1 := Lib.hid hs1.bz
        have Hs2 := Lib.hid hs2.bz
        have Hs3 := Lib.hid hs3.bz
        have hGr : G < wr.heap.size := by omega
        have hbox : (wr.alloc (.cells #[.slice A1 x.name.length a1, .slice B2 x.key.length b2, .bool x.flag, .slice C1 x.value.length c1] 26)).heap[G]? = some (.cells #[.int .i64 t.start, v, .slice B1 t.writes.length m1] 77 (0, 0)) := by rw [heap_alloc_old _ _ hGr]; exact Hcx.out
        obtain ⟨gc0, gc1, gc2, _⟩ := box3 hbox
        have Hbox := Lib.hid hbox
        clear hbox hs1 hs2 hs3
        go_wp2_with fail
        go_region_law (first
          | (go_simp; go_at_call 82; (with_reducible refine (txnRead_ok _ A1 B2 C1 x a1 b2 c1 ?h1 ?h2 ?h3 hb1 hb2 hb3).mono ?_); (case h1 => exact Hs1.out.bsame (by repeat' (first | exact Same.refl _ _ | assumption | refine Same.drew ?_ | refine Same.drewN ?_ _ | refine Same.alloc ?_ _ | refine Same.setCell ?_ (fun hq => by simp only [From] at hq; first | omega | (simp at hq; done) | (simp at hq; omega)) _))); (case h2 => exact Hs2.out.bsame (by repeat' (first | exact Same.refl _ _ | assumption | refine Same.drew ?_ | refine Same.drewN ?_ _ | refine Same.alloc ?_ _ | refine Same.setCell ?_ (fun hq => by simp only [From] at hq; first | omega | (simp at hq; done) | (simp at hq; omega)) _))); (case h3 => exact Hs3.out.bsame (by repeat' (first | exact Same.refl _ _ | assumption | refine Same.drew ?_ | refine Same.drewN ?_ _ | refine Same.alloc ?_ _ | refine Same.setCell ?_ (fun hq => by simp only [From] at hq; first | omega | (simp at hq; done) | (simp at hq; omega)) _))); rintro e w6 ⟨A6, a6, B6, b6, C6, c6, rfl, gs1, gs2, gs3, hbw6⟩; have hb6 : Below wr.heap.size wr w6 := (((Below.refl wr.heap.size wr).alloc (Nat.le_refl _) _).drew).next hbw6 (by simp); have hz6 : wr.heap.size < w6.heap.size := (by have := hbw6.size; simp at this; omega); have hbx6 := (hb6.block G hGr).trans Hcx.out; obtain ⟨ga0, ga1, ga2, _⟩ := box3 hbx6; have hG6 : G < w6.heap.size := (by omega))
          | (refine step_snocG wrR_stays (S := From W0.heap.size) _ rfl (.tmp 20) (.tmp 23) _ rfl W0.heap.size 26 i0 _ 4 80 Tryd.underlying75 hi0 hz0 hz1 hz2 rfl (by decide) v (t.reads.take k) ?hs ?hown (some ⟨w6.heap.size, 0, none⟩) 1 [.slice A6 x.name.length a6, .slice B6 x.key.length b6, .bool x.flag, .slice C6 x.value.length c6] ?hx rfl (new_src w6 w6.heap.size [.slice A6 x.name.length a6, .slice B6 x.key.length b6, .bool x.flag, .slice C6 x.value.length c6] _ rfl) (by simp [Value.oneCell']) ?hm ?hby ?hba x ?hd ?_; (case hs => (simp [Act.eval, Act.put])); (case hx => (simp [Act.eval, Act.put])); (case hown => (refine Own.below wrR_stays Hown.out ?_; exact (hb6.alloc (by first | exact Nat.le_refl _ | omega | (simp; done) | (simp; omega)) _))); (case hm => (simp only [List.length_take, maxLen]; omega)); (case hby => (simp only [List.length_take]; omega)); (case hba => (simp; omega)); (case hd => (refine wr_fresh (n := wr.heap.size) (gs1.blo (by first | exact Nat.le_refl _ | omega | (simp; done) | (simp; omega))) (gs2.blo (by first | exact Nat.le_refl _ | omega | (simp; done) | (simp; omega))) (gs3.blo (by first | exact Nat.le_refl _ | omega | (simp; done) | (simp; omega))) hb1 hb2 hb3 ?_ (by first | exact Nat.le_refl _ | omega | (simp; done) | (simp; omega)) (Hown.out.apart _ (Nat.le_refl _)); repeat' (first | exact Same.refl _ _ | assumption | refine Same.drew ?_ | refine Same.drewN ?_ _ | refine Same.alloc ?_ _ | refine Same.setCell ?_ (fun hq => by simp only [From] at hq; first | omega | (simp at hq; done) | (simp at hq; omega)) _))); intro v8 w8 hown8 hbw8 hgr8; obtain ⟨A8, c8, rfl, _, _⟩ := hown8.readc wrR_stays; have Hown8 := Lib.hid hown8; clear hown8; have hbx8 : w8.heap[G]? = some (.cells #[.int .i64 t.start, v, .slice B1 t.writes.length m1] 77 (0, 0)) := (hbw8.block G hhi).trans ((heap_alloc_old _ _ hG6).trans hbx6); obtain ⟨ge0, ge1, ge2, ge3, ge4, ge5⟩ := box3 hbx8))
        all_goals
          go_wp2
          go_roundw
          case rel => exact ⟨k + 1, _, by omega, by go_num, by rw [Hsn.out]; exact Hown8.out.same_from wrR_stays ((Same.refl _ _).setCell (fun h => by simp only [From] at h; omega) _), by rw [heap_setCell_same _ _ _ _ _ _ hbx8, hl8]; rfl, (((Hbel.out.trans (hb6.mono (by omega))).alloc (by omega) _).trans (hbw8.mono (by omega))).setCell (by simp only []; omega) _, (((Hsm.out.trans (Same.of_below hb6)).alloc _).trans (Same.of_lt hbw8 (fun k h => h.1))).setCell (fun h => h.2 rfl) _⟩
          case measure => simp [intOf]; omega
      · obtain rfl : k = t.reads.length := by omega
        have hown3 := Hown.out
        rw [List.take_length] at hown3
        obtain ⟨A8, c8, rfl, hc8, _⟩ := hown3.readc wrR_stays
        have Hs8 := Lib.hid hown3
        obtain ⟨ge0, ge1, ge2, _⟩ := box3 Hcx.out
        obtain ⟨gh0, gh1, gh2, gh3, gh4, gh5⟩ := box3 ((Hsm.out.block (w.heap.size + 1) ⟨by omega, by omega⟩ (by omega)).trans HF.out.y)
        have hzr : w.heap.size + 1 < wr.heap.size := by omega
        clear hown3 Hown
        go_wp2
        have hlt8 := Hs8.out.blt
        have hlt1 := HF.out.s.blt
        have hg1 := HF.out.g
        refine bodyPost_ret (v := .agg #[.int .i64 t.start, .slice A8 t.reads.length c8, .slice B1 t.writes.length m1]) (by simp [results, Tryd.results78, go_sem, gh0, gh1, gh2]) rfl ⟨A8, c8, B1, m1, rfl, ⟨hc8, hc1, ?_, ?_, ?_⟩, ?_⟩
        · refine Hs8.out.keep wrR_stays (T := From W0.heap.size) ?_ (fun b _ h => h) (fun b hb => (hlt8 b (by rw [← own_blk A8]; exact hb)).1) (fun b _ h => ⟨by simp only [From] at *; omega, fun h7 => by have := hlt1 b h7; simp only [From] at h; omega⟩) (by omega)
          exact ((((Same.refl _ _).setCell (fun h => by simp only [From] at h; omega) _).setCell (fun h => by simp only [From] at h; omega) _).setCell (fun h => by simp only [From] at h; omega) _)
        · refine (HF.out.s.keep wrR_stays (T := fun b => b < W0.heap.size ∧ b ≠ G) (S2 := fun b => w.heap.size + 2 ≤ b ∧ b < W0.heap.size) (base' := w.heap.size) Hsm.out (fun b hb h => ⟨hb, h.2⟩) (fun b hb => ⟨(hlt1 b (by rw [← own_blk B1]; exact hb)).2, fun e => hg1 (by rw [own_blk] at hb; rw [hb, e])⟩) (fun b hb h => ⟨h.1, hb⟩) (by omega)).keep wrR_stays (T := From (w.heap.size + 2)) ?_ (fun b _ h => h.1) (fun b hb => (hlt1 b (by rw [← own_blk B1]; exact hb)).1) (fun b _ h => ⟨by simp only [From]; omega, fun h8 => by have := hlt8 b h8; omega⟩) (Nat.le_refl _)
          exact ((((Same.refl _ _).setCell (fun h => by simp only [From] at h; omega) _).setCell (fun h => by simp only [From] at h; omega) _).setCell (fun h => by simp only [From] at h; omega) _)
        · intro b h8 h1
          have := hlt8 b h8
          have := hlt1 b h1
          omega
        · exact (((Hbw.out.setCell (by simp only []; omega) _).setCell (by simp only []; omega) _).setCell (by simp only []; omega) _)
theorem txnOwn_ok (w : World) (A B : Option Addr) (t : Tx) (n m : Nat) (ha : Ws All w A t.reads) (hb : Ws All w B t.writes) (hn : t.reads.length * 80 ≤ 140737488355328) (hm : t.writes.length * 80 ≤ 140737488355328) :
    Calls Tryd.prog 78 #[.agg #[.int .i64 t.start, .slice A t.reads.length n, .slice B t.writes.length m]] w (RetTx w t) :=
  (txnOwn_own w A B t n m ha hb hn hm).mono fun _ _ h => h.bare
end Go.Proofs.YtjgdeeabejoegaaDoor
