/- Walks: txn.both and forestAndTxn; txn.Look and Looked; the law TxnLooks. -/
import Derived.Test.YthhcdibimnifaaaTxnCheck
import Derived.Test.YthhcdibimnifaaaFGetLaw
namespace Go.Proofs.Ythhcdibimnifaaa
open Go.RowKit
set_option linter.unusedVariables false
set_option linter.unusedSimpArgs false

theorem txn_small' {t : Tx} (h : txnFaultS t = 0) : t.reads.length ≤ 20 ∧ t.writes.length ≤ 10 := by
  unfold txnFaultS at h
  split at h
  · cases h
  · split at h
    · cases h
    · omega
/-- What both and forestAndTxn answer. -/
def bothS (l : List Tn) (t : Tx) : Int := if forestFaultS l ≠ 0 then forestFaultS l else txnFaultS t
theorem both_fine {l : List Tn} {t : Tx} (h : bothS l t = 0) : forestFaultS l = 0 ∧ txnFaultS t = 0 := by
  unfold bothS at h
  split at h
  · rename_i h'; exact absurd h h'
  · rename_i h'; exact ⟨by simpa using h', h⟩
def nkFault (n k : List UInt8) : Int := if nameFault n ≠ 0 then nameFault n else keyFault k
theorem forestGet_code {l : List Tn} {n k : List UInt8} (h : forestFaultS l = 0) : (forestGetS l n k).2 = nkFault n k := by
  unfold forestGetS fnFault nkFault
  by_cases h1 : nameFault n = 0
  · simp only [h, ne_eq, not_true_eq_false, if_false, h1]
    unfold getS
    rw [if_neg (by rw [Fine.old h]; decide)]
    by_cases h2 : keyFault k = 0
    · rw [if_neg (by simpa using h2), h2]
      split <;> rfl
    · rw [if_pos h2]
  · simp [h, h1]
theorem forestGet_bad {l : List Tn} {n k : List UInt8} (h : forestFaultS l = 0) (h' : nkFault n k ≠ 0) : forestGetS l n k = ((false, []), nkFault n k) := by
  have hc := forestGet_code (n := n) (k := k) h
  unfold forestGetS at hc ⊢
  split
  · rename_i h1; rw [if_pos h1] at hc; rw [← hc]
  · rename_i h1
    rw [if_neg h1] at hc
    rw [← hc] at h' ⊢
    unfold getS at h' ⊢
    split
    · rfl
    · split
      · rfl
      · rename_i h2 h3
        rw [if_neg h2, if_neg h3] at h'
        exfalso
        apply h'
        split <;> rfl
def atPlace (n k : List UInt8) (x : Wr) : Bool := x.name == n && x.key == k
/-- What Look and Looked answer. -/
def lookS (l : List Tn) (t : Tx) (n k : List UInt8) : (Finding × Bool) × Int :=
  if bothS l t ≠ 0 then (((false, []), false), bothS l t) else if nkFault n k ≠ 0 then (((false, []), false), nkFault n k) else
    match t.writes.find? (atPlace n k) with
    | some x => (((!x.flag, x.value), true), 0)
    | none => (((forestGetS l n k).1, false), 0)
theorem find_here {q : Wr → Bool} {l : List Wr} {k : Nat} (hk : k < l.length) (h : (l.take k).any q = false) (hq : q l[k] = true) : l.find? q = some l[k] := by
  have hs : l = l.take k ++ l[k] :: l.drop (k + 1) := by
    rw [List.getElem_cons_drop hk, List.take_append_drop]
  have h1 : (l.take k).find? q = none := by rw [List.find?_eq_none]; simpa using h
  generalize hx : l[k] = x at *
  rw [hs, List.find?_append, h1]
  simp [hq]
theorem find_none {q : Wr → Bool} {l : List Wr} (h : l.any q = false) : l.find? q = none := by rw [List.find?_eq_none]; simpa using h
def RetLook (w : World) (r : (Finding × Bool) × Int) (e : Ending) (w' : World) : Prop :=
  ∃ A c, e = .returned (.tuple #[.agg #[.bool r.1.1.1, .slice A r.1.1.2.length c], .bool r.1.2, .int .i64 r.2]) ∧ Bs (From w.heap.size) w' A r.1.1.2 ∧ Below w.heap.size w w'

set_option maxRecDepth 100000 in
set_option maxHeartbeats 1000000 in
theorem both_ok (w : World) (L : Option Addr) (l : List Tn) (c : Nat) (A B : Option Addr) (t : Tx) (n m : Nat) (hl : Ts All w L l) (ha : Ws All w A t.reads) (hb : Ws All w B t.writes) (hcn : t.reads.length ≤ n) (hcm : t.writes.length ≤ m) :
    Calls Try.prog 143 #[.slice L l.length c, .agg #[.int .i64 t.start, .slice A t.reads.length n, .slice B t.writes.length m]] w (RetV w (.int .i64 (bothS l t))) := by
  have Hl := Lib.hid hl
  have Ha := Lib.hid ha
  have Hb := Lib.hid hb
  clear hl ha hb
  have Hbl := Lib.hid (show Below w.heap.size w (w.alloc (.cells #[.int .i64 t.start, .slice A t.reads.length n, .slice B t.writes.length m] 79)) from (Below.refl _ _).alloc (Nat.le_refl _) _)
  have Hx := Lib.hid (box_new w #[.int .i64 t.start, .slice A t.reads.length n, .slice B t.writes.length m] 79)
  by_cases h1 : forestFaultS l = 0
  · have b1 : (forestFaultS l == 0) = true := by simp [h1]
    have b1' : (forestFaultS l != 0) = false := by simp [h1]
    have Hv := Lib.hid (show bothS l t = txnFaultS t by unfold bothS; rw [if_neg (by simpa using h1)])
    clear h1
    go_enter Try.func143, Try.ntmps143
    go_wp2_with (first
      | (go_at_call 36; refine (forestCheck_ok _ L l c (Hl.out.below tenR_stays Hbl.out)).mono ?_; rintro e w1 ⟨rfl, hb1⟩; obtain ⟨x0, x1, x2, _⟩ := box3 ((hb1.block _ (by simp)).trans Hx.out); have hw1 := Hbl.out.next hb1 (by simp))
      | (go_at_call 64; refine (txnCheck_ok _ A B t n m (Ha.out.below wrR_stays hw1) (Hb.out.below wrR_stays hw1) hcn hcm).mono ?_; rintro e w2 ⟨rfl, hb2⟩; have hw2 := hw1.next hb2 (by have := hb1.size; simp at this; omega)))
    go_ret
    exact ⟨ret_int (by rw [Hv.out]), hw2⟩
  · have b1 : (forestFaultS l == 0) = false := by simpa using h1
    have b1' : (forestFaultS l != 0) = true := by simpa using h1
    have Hv := Lib.hid (show bothS l t = forestFaultS l by unfold bothS; rw [if_pos h1])
    clear h1
    go_enter Try.func143, Try.ntmps143
    go_wp2_with (go_at_call 36; refine (forestCheck_ok _ L l c (Hl.out.below tenR_stays Hbl.out)).mono ?_; rintro e w1 ⟨rfl, hb1⟩; have hw1 := Hbl.out.next hb1 (by simp))
    go_ret
    exact ⟨ret_int (by rw [Hv.out]), hw1⟩
set_option maxRecDepth 100000 in
set_option maxHeartbeats 1000000 in
theorem forestAndTxn_ok (w : World) (L : Option Addr) (l : List Tn) (c : Nat) (A B : Option Addr) (t : Tx) (n m : Nat) (hl : Ts All w L l) (ha : Ws All w A t.reads) (hb : Ws All w B t.writes) :
    Calls Try.prog 144 #[.slice L l.length c, .agg #[.int .i64 t.start, .slice A t.reads.length n, .slice B t.writes.length m]] w (RetV w (.int .i64 (bothS l t))) := by
  have Hl := Lib.hid hl
  have Ha := Lib.hid ha
  have Hb := Lib.hid hb
  clear hl ha hb
  have Hbl := Lib.hid (show Below w.heap.size w (w.alloc (.cells #[.int .i64 t.start, .slice A t.reads.length n, .slice B t.writes.length m] 79)) from (Below.refl _ _).alloc (Nat.le_refl _) _)
  have Hx := Lib.hid (box_new w #[.int .i64 t.start, .slice A t.reads.length n, .slice B t.writes.length m] 79)
  by_cases h1 : forestFaultS l = 0
  · have b1 : (forestFaultS l == 0) = true := by simp [h1]
    have b1' : (forestFaultS l != 0) = false := by simp [h1]
    have Hv := Lib.hid (show bothS l t = txnFaultS t by unfold bothS; rw [if_neg (by simpa using h1)])
    clear h1
    go_enter Try.func144, Try.ntmps144
    go_wp2_with (first
      | (go_at_call 38; refine (forestFault_ok _ L l c (Hl.out.below tenR_stays Hbl.out)).mono ?_; rintro e w1 ⟨rfl, hb1⟩; obtain ⟨x0, x1, x2, _⟩ := box3 ((hb1.block _ (by simp)).trans Hx.out); have hw1 := Hbl.out.next hb1 (by simp))
      | (go_at_call 65; refine (txnFault_ok _ A B t n m (Ha.out.below wrR_stays hw1) (Hb.out.below wrR_stays hw1)).mono ?_; rintro e w2 ⟨rfl, hb2⟩; have hw2 := hw1.next hb2 (by have := hb1.size; simp at this; omega)))
    go_ret
    exact ⟨ret_int (by rw [Hv.out]), hw2⟩
  · have b1 : (forestFaultS l == 0) = false := by simpa using h1
    have b1' : (forestFaultS l != 0) = true := by simpa using h1
    have Hv := Lib.hid (show bothS l t = forestFaultS l by unfold bothS; rw [if_pos h1])
    clear h1
    go_enter Try.func144, Try.ntmps144
    go_wp2_with (go_at_call 38; refine (forestFault_ok _ L l c (Hl.out.below tenR_stays Hbl.out)).mono ?_; rintro e w1 ⟨rfl, hb1⟩; have hw1 := Hbl.out.next hb1 (by simp))
    go_ret
    exact ⟨ret_int (by rw [Hv.out]), hw1⟩
set_option maxRecDepth 100000 in
set_option maxHeartbeats 4000000 in
theorem looked_ok (w : World) (L : Option Addr) (l : List Tn) (c : Nat) (A B : Option Addr) (t : Tx) (n m : Nat) (N : Option Addr) (nm : List UInt8) (nc : Nat) (K : Option Addr) (k : List UInt8) (kc : Nat) (hl : Ts All w L l) (ha : Ws All w A t.reads) (hb : Ws All w B t.writes) (hn : Bs All w N nm) (hk : Bs All w K k) :
    Calls Try.prog 76 #[.slice L l.length c, .agg #[.int .i64 t.start, .slice A t.reads.length n, .slice B t.writes.length m], .slice N nm.length nc, .slice K k.length kc] w (RetLook w (lookS l t nm k)) := by
  have Hl := Lib.hid hl
  have Ha := Lib.hid ha
  have Hb := Lib.hid hb
  have Hn := Lib.hid hn
  have Hk := Lib.hid hk
  clear hl ha hb hn hk
  obtain ⟨hx, hy, hsz, hbl⟩ := alloc2 w (.cells #[.int .i64 t.start, .slice A t.reads.length n, .slice B t.writes.length m] 79) (.cells #[.bool false, .slice none 0 0] 25)
  have Hx := Lib.hid hx
  have Hy := Lib.hid hy
  have Hbl := Lib.hid hbl
  have Hsz := Lib.hid hsz
  clear hx hy hbl hsz
  by_cases g1 : bothS l t = 0
  · have b1 : (bothS l t == 0) = true := by simp [g1]
    have b1' : (bothS l t != 0) = false := by simp [g1]
    by_cases g2 : nameFault nm = 0
    · have b2 : (nameFault nm == 0) = true := by simp [g2]
      have b2' : (nameFault nm != 0) = false := by simp [g2]
      by_cases g3 : keyFault k = 0
      · have b3' : (keyFault k != 0) = false := by simp [g3]
        have Hg1 := Lib.hid g1
        have Hg2 := Lib.hid (show nkFault nm k = 0 by unfold nkFault; rw [if_neg (by simpa using g2)]; exact g3)
        have hw10 := (txn_small' (both_fine g1).2).2
        clear g1 g2 g3
        go_enter Try.func76, Try.ntmps76
        go_wp2_with (first
          | (go_at_call 144; refine (forestAndTxn_ok _ L l c A B t n m (Hl.out.below tenR_stays Hbl.out) (Ha.out.below wrR_stays Hbl.out) (Hb.out.below wrR_stays Hbl.out)).mono ?_; rintro e w1 ⟨rfl, hb1⟩; have hzz := Hsz.out; have hs1 := hb1.size; rw [hzz] at hs1; have Hx1 := Lib.hid ((hb1.block w.heap.size (by rw [hzz]; omega)).trans Hx.out); have Hy1 := Lib.hid ((hb1.block (w.heap.size + 1) (by rw [hzz]; omega)).trans Hy.out); have Hw1 := Lib.hid (Hbl.out.next hb1 (by rw [hzz]; omega)); obtain ⟨x0, x1, x2, _⟩ := box3 Hx1.out; obtain ⟨z0, z1, z2, z3⟩ := box2 Hy1.out; clear hb1 hzz)
          | (go_at_call 105; refine (nameFault_ok _ N nm nc).mono ?_; rintro e w2 ⟨rfl, rfl⟩)
          | (go_at_call 92; refine (keyFault_ok _ K k kc).mono ?_; rintro e w2 ⟨rfl, rfl⟩))
        have HxF := Hx1
        have HyF := Hy1
        have HwF := Hw1
        have hsF := hs1
        clear b1 b1' b2 b2' b3'

        go_loopw [12] (fun i wr => ∃ j : Nat, j ≤ t.writes.length ∧ i = .int .i64 j ∧ (t.writes.take j).any (atPlace nm k) = false ∧ Below w1.heap.size w1 wr) (fun i _ => t.writes.length - (intOf i).toNat)
        case atStart => exact ⟨0, by omega, rfl, rfl, Below.refl _ _⟩
        case round =>
          obtain ⟨j, hj, rfl, hno, hbel⟩ := hrel
          have Hno := Lib.hid hno
          have Hbel := Lib.hid hbel
          have hbz := hbel.size
          have hsF := hsF
          obtain ⟨x0, x1, x2, _⟩ := box3 ((hbel.block _ (by omega)).trans HxF.out)
          have Hyr := Lib.hid ((hbel.block (w.heap.size + 1) (by omega)).trans HyF.out)
          obtain ⟨z0, z1, z2, z3⟩ := box2 Hyr.out
          have Hbwr := Lib.hid (HwF.out.next hbel (by omega))
          have hzy : w.heap.size + 1 < wr.heap.size := by omega
          clear hbel hno
          by_cases hlt : j < t.writes.length
          · obtain ⟨g, off, A1, a1, B1, b1, C1, c1, hX, _, hal, hc1, hc2, hc3, hc4, hs1, hs2, hs3, _, _, hb3⟩ := wrs_at (Hb.out.below wrR_stays Hbwr.out) hlt
            subst hX
            have Hnext := Lib.hid (fun h => any_next (q := atPlace nm k) hlt Hno.out h)
            have Hfind := Lib.hid (fun h => find_here (q := atPlace nm k) hlt Hno.out h)
            generalize t.writes[j] = x at *
            have Hs1 := Lib.hid hs1.bz
            have Hs2 := Lib.hid hs2.bz
            have Hs3 := Lib.hid hs3.bz
            have Hbx := Lib.hid (show Below wr.heap.size wr (wr.alloc (.cells #[.slice A1 x.name.length a1, .slice B1 x.key.length b1, .bool x.flag, .slice C1 x.value.length c1] 94)) from (Below.refl _ _).alloc (Nat.le_refl _) _)
            clear hs1 hs2 hs3
            have Hdef := Lib.hid (show atPlace nm k x = (x.name == nm && x.key == k) from rfl)
            have Hpl := Lib.hid (show samePl x ⟨nm, k, false, []⟩ = (x.name == nm && x.key == k) from rfl)
            rcases Bool.eq_false_or_eq_true (x.name == nm) with d1 | d1
            · rcases Bool.eq_false_or_eq_true (x.key == k) with d2 | d2
              · have Hv := Lib.hid (show lookS l t nm k = (((!x.flag, x.value), true), 0) by unfold lookS; rw [if_neg (by rw [Hg1.out]; decide), if_neg (by rw [Hg2.out]; decide), Hfind.out (by rw [Hdef.out, d1, d2]; rfl)])
                go_wp2_with (first
                    | (go_at_call_of 89 A1; (with_reducible refine (refSameBytes_ok _ A1 N x.name nm a1 nc ?hx ?hy).mono ?_); (case hx => exact Hs1.out.bbelow Hbx.out); (case hy => exact (Hn.out.bbelow Hbwr.out).bbelow Hbx.out); rintro e w2 ⟨rfl, rfl⟩)
                    | (go_at_call_of 89 B1; (with_reducible refine (refSameBytes_ok _ B1 K x.key k b1 kc ?hx ?hy).mono ?_); (case hx => exact Hs2.out.bbelow Hbx.out); (case hy => exact (Hk.out.bbelow Hbwr.out).bbelow Hbx.out); rintro e w2 ⟨rfl, rfl⟩))
                go_region_held3 (fun w' => w'.cell? ⟨wr.heap.size, 2, none⟩ = some (.bool x.flag) ∧ w'.cell? ⟨wr.heap.size, 3, none⟩ = some (.slice C1 x.value.length c1))
                  (first
                    | go_keep
                    | exact ⟨v2, v3⟩
                    | exact ⟨((((Same.refl (fun b => b = wr.heap.size) w5).setCell (fun h => by simp only [] at h; omega) _).setCell (fun h => by simp only [] at h; omega) _).cell rfl hz5').trans v2, ((((Same.refl (fun b => b = wr.heap.size) w5).setCell (fun h => by simp only [] at h; omega) _).setCell (fun h => by simp only [] at h; omega) _).cell rfl hz5').trans v3⟩)
                  ((go_at_call 90; (with_reducible refine (joinedNil_ok _ C1 x.value c1 ?ha hb3).mono ?_); (case ha => exact (Hs3.out.bbelow Hbx.out).bsame (by repeat' (first | exact Same.refl _ _ | assumption | refine Same.drew ?_ | refine Same.drewN ?_ _ | refine Same.alloc ?_ _ | refine Same.setCell ?_ (fun hq => by simp only [From] at hq; first | omega | (simp at hq; done) | (simp at hq; omega)) _))); rintro e w5 ⟨A5, c5, rfl, gs5, hb5⟩; have hb5' : Below (wr.heap.size + 1) (wr.alloc (.cells #[.slice A1 x.name.length a1, .slice B1 x.key.length b1, .bool x.flag, .slice C1 x.value.length c1] 94)) w5 := (Below.refl _ _).drew.next (hb5.mono (by simp)) (by simp); obtain ⟨v0, v1, v2, v3, _⟩ := box4 ((hb5'.block wr.heap.size (by omega)).trans (box_new wr _ _)); obtain ⟨z0, z1, z2, z3⟩ := box2 ((hb5'.block (w.heap.size + 1) (by omega)).trans ((heap_alloc_old _ _ hzy).trans Hyr.out)); have hs5 := hb5'.size; have hz5 : w.heap.size + 1 < w5.heap.size := (by simp at hs5; omega); have hz5' : wr.heap.size < w5.heap.size := (by simp at hs5; omega)))
                go_wp2
                refine bodyPost_ret (v := .tuple #[.agg #[.bool (!x.flag), .slice A5 x.value.length c5], .bool true, .int .i64 0]) (by simp [results, Try.results76, go_sem, z0, z1]) rfl ?_
                rw [Hv.out]
                refine ⟨A5, c5, rfl, ?_, ?_⟩
                · exact (gs5.bsame (((Same.refl _ _).setCell (fun h => by simp only [From] at h; simp at h; omega) _).setCell (fun h => by simp only [From] at h; simp at h; omega) _)).blo (by simp; omega)
                · exact ((((Hbwr.out.next Hbx.out (by omega)).trans (hb5'.mono (by omega))).setCell (by simp only []; omega) _).setCell (by simp only []; omega) _)
              · have Hn1 := Lib.hid (Hnext.out (by rw [Hdef.out, d1, d2]; rfl))
                go_wp2_with (first
                    | (go_at_call_of 89 A1; (with_reducible refine (refSameBytes_ok _ A1 N x.name nm a1 nc ?hx ?hy).mono ?_); (case hx => exact Hs1.out.bbelow Hbx.out); (case hy => exact (Hn.out.bbelow Hbwr.out).bbelow Hbx.out); rintro e w2 ⟨rfl, rfl⟩)
                    | (go_at_call_of 89 B1; (with_reducible refine (refSameBytes_ok _ B1 K x.key k b1 kc ?hx ?hy).mono ?_); (case hx => exact Hs2.out.bbelow Hbx.out); (case hy => exact (Hk.out.bbelow Hbwr.out).bbelow Hbx.out); rintro e w2 ⟨rfl, rfl⟩))
                go_roundw
                case rel => exact ⟨j + 1, by omega, by go_num, Hn1.out, Hbel.out.alloc hbz _⟩
                case measure => simp [intOf]; omega
            · have Hn1 := Lib.hid (Hnext.out (by rw [Hdef.out, d1]; rfl))
              go_wp2_with (first
                    | (go_at_call_of 89 A1; (with_reducible refine (refSameBytes_ok _ A1 N x.name nm a1 nc ?hx ?hy).mono ?_); (case hx => exact Hs1.out.bbelow Hbx.out); (case hy => exact (Hn.out.bbelow Hbwr.out).bbelow Hbx.out); rintro e w2 ⟨rfl, rfl⟩)
                    | (go_at_call_of 89 B1; (with_reducible refine (refSameBytes_ok _ B1 K x.key k b1 kc ?hx ?hy).mono ?_); (case hx => exact Hs2.out.bbelow Hbx.out); (case hy => exact (Hk.out.bbelow Hbwr.out).bbelow Hbx.out); rintro e w2 ⟨rfl, rfl⟩))
              go_roundw
              case rel => exact ⟨j + 1, by omega, by go_num, Hn1.out, Hbel.out.alloc hbz _⟩
              case measure => simp [intOf]; omega
          · obtain rfl : j = t.writes.length := by omega
            have hf := Hno.out
            rw [List.take_length] at hf
            have Hv := Lib.hid (show lookS l t nm k = (((forestGetS l nm k).1, false), 0) by unfold lookS; rw [if_neg (by rw [Hg1.out]; decide), if_neg (by rw [Hg2.out]; decide), find_none hf])
            clear hf
            go_wp2_with (go_at_call 40; refine (refForestGet_ok _ L l c N nm nc K k kc (Hl.out.below tenR_stays Hbwr.out) (Hn.out.bbelow Hbwr.out) (Hk.out.bbelow Hbwr.out)).mono ?_; rintro e w6 ⟨A6, c6, rfl, gs6, hb6⟩; obtain ⟨z0, z1, z2, z3⟩ := box2 ((hb6.block (w.heap.size + 1) hzy).trans Hyr.out); have hs6 := hb6.size; have hz6 : w.heap.size + 1 < w6.heap.size := (by omega))
            refine bodyPost_ret (v := .tuple #[.agg #[.bool (forestGetS l nm k).1.1, .slice A6 (forestGetS l nm k).1.2.length c6], .bool false, .int .i64 0]) (by simp [results, Try.results76, go_sem, z0, z1, hz6]) rfl ?_
            rw [Hv.out]
            refine ⟨A6, c6, rfl, ?_, ?_⟩
            · exact (gs6.bsame ((((Same.refl _ _).setCell (fun h => by simp only [From] at h; omega) _).setCell (fun h => by simp only [From] at h; omega) _).alloc _)).blo (by omega)
            · exact ((((Hbwr.out.next hb6 (by omega)).setCell (by simp only []; omega) _).setCell (by simp only []; omega) _).alloc (by simp; omega) _)
      · have b3' : (keyFault k != 0) = true := by simpa using g3
        have Hv := Lib.hid (show lookS l t nm k = (((false, []), false), keyFault k) by
          have hnk : nkFault nm k = keyFault k := by (unfold nkFault; rw [if_neg (by simpa using g2)])
          unfold lookS; rw [if_neg (by simpa using g1), hnk, if_pos g3])
        clear g1 g2 g3
        go_enter Try.func76, Try.ntmps76
        go_wp2_with (first
          | (go_at_call 144; refine (forestAndTxn_ok _ L l c A B t n m (Hl.out.below tenR_stays Hbl.out) (Ha.out.below wrR_stays Hbl.out) (Hb.out.below wrR_stays Hbl.out)).mono ?_; rintro e w1 ⟨rfl, hb1⟩; have hzz := Hsz.out; have hs1 := hb1.size; rw [hzz] at hs1; have Hx1 := Lib.hid ((hb1.block w.heap.size (by rw [hzz]; omega)).trans Hx.out); have Hy1 := Lib.hid ((hb1.block (w.heap.size + 1) (by rw [hzz]; omega)).trans Hy.out); have Hw1 := Lib.hid (Hbl.out.next hb1 (by rw [hzz]; omega)); obtain ⟨x0, x1, x2, _⟩ := box3 Hx1.out; obtain ⟨z0, z1, z2, z3⟩ := box2 Hy1.out; clear hb1 hzz)
          | (go_at_call 105; refine (nameFault_ok _ N nm nc).mono ?_; rintro e w2 ⟨rfl, rfl⟩)
          | (go_at_call 92; refine (keyFault_ok _ K k kc).mono ?_; rintro e w2 ⟨rfl, rfl⟩))
        refine bodyPost_ret (v := .tuple #[.agg #[.bool false, .slice none 0 0], .bool false, .int .i64 (keyFault k)]) (by simp [results, Try.results76, go_sem, z0, z1]) rfl ?_
        rw [Hv.out]
        exact ⟨none, 0, rfl, SL.nil, ((Hw1.out.setCell (by simp only []; omega) _).setCell (by simp only []; omega) _)⟩
    · have b2 : (nameFault nm == 0) = false := by simpa using g2
      have b2' : (nameFault nm != 0) = true := by simpa using g2
      have Hv := Lib.hid (show lookS l t nm k = (((false, []), false), nameFault nm) by
        have hnk : nkFault nm k = nameFault nm := by (unfold nkFault; rw [if_pos g2])
        unfold lookS; rw [if_neg (by simpa using g1), hnk, if_pos g2])
      clear g1 g2
      go_enter Try.func76, Try.ntmps76
      go_wp2_with (first
        | (go_at_call 144; refine (forestAndTxn_ok _ L l c A B t n m (Hl.out.below tenR_stays Hbl.out) (Ha.out.below wrR_stays Hbl.out) (Hb.out.below wrR_stays Hbl.out)).mono ?_; rintro e w1 ⟨rfl, hb1⟩; have hzz := Hsz.out; have hs1 := hb1.size; rw [hzz] at hs1; have Hx1 := Lib.hid ((hb1.block w.heap.size (by rw [hzz]; omega)).trans Hx.out); have Hy1 := Lib.hid ((hb1.block (w.heap.size + 1) (by rw [hzz]; omega)).trans Hy.out); have Hw1 := Lib.hid (Hbl.out.next hb1 (by rw [hzz]; omega)); obtain ⟨x0, x1, x2, _⟩ := box3 Hx1.out; obtain ⟨z0, z1, z2, z3⟩ := box2 Hy1.out; clear hb1 hzz)
        | (go_at_call 105; refine (nameFault_ok _ N nm nc).mono ?_; rintro e w2 ⟨rfl, rfl⟩))
      refine bodyPost_ret (v := .tuple #[.agg #[.bool false, .slice none 0 0], .bool false, .int .i64 (nameFault nm)]) (by simp [results, Try.results76, go_sem, z0, z1]) rfl ?_
      rw [Hv.out]
      exact ⟨none, 0, rfl, SL.nil, ((Hw1.out.setCell (by simp only []; omega) _).setCell (by simp only []; omega) _)⟩
  · have b1 : (bothS l t == 0) = false := by simpa using g1
    have b1' : (bothS l t != 0) = true := by simpa using g1
    have Hv := Lib.hid (show lookS l t nm k = (((false, []), false), bothS l t) by
      unfold lookS; rw [if_pos g1])
    clear g1
    go_enter Try.func76, Try.ntmps76
    go_wp2_with (first
      | (go_at_call 144; refine (forestAndTxn_ok _ L l c A B t n m (Hl.out.below tenR_stays Hbl.out) (Ha.out.below wrR_stays Hbl.out) (Hb.out.below wrR_stays Hbl.out)).mono ?_; rintro e w1 ⟨rfl, hb1⟩; have hzz := Hsz.out; have hs1 := hb1.size; rw [hzz] at hs1; have Hx1 := Lib.hid ((hb1.block w.heap.size (by rw [hzz]; omega)).trans Hx.out); have Hy1 := Lib.hid ((hb1.block (w.heap.size + 1) (by rw [hzz]; omega)).trans Hy.out); have Hw1 := Lib.hid (Hbl.out.next hb1 (by rw [hzz]; omega)); obtain ⟨x0, x1, x2, _⟩ := box3 Hx1.out; obtain ⟨z0, z1, z2, z3⟩ := box2 Hy1.out; clear hb1 hzz))
    refine bodyPost_ret (v := .tuple #[.agg #[.bool false, .slice none 0 0], .bool false, .int .i64 (bothS l t)]) (by simp [results, Try.results76, go_sem, z0, z1]) rfl ?_
    rw [Hv.out]
    exact ⟨none, 0, rfl, SL.nil, ((Hw1.out.setCell (by simp only []; omega) _).setCell (by simp only []; omega) _)⟩
set_option maxRecDepth 100000 in
set_option maxHeartbeats 4000000 in
theorem look_ok (w : World) (L : Option Addr) (l : List Tn) (c : Nat) (A B : Option Addr) (t : Tx) (n m : Nat) (N : Option Addr) (nm : List UInt8) (nc : Nat) (K : Option Addr) (k : List UInt8) (kc : Nat) (hl : Ts All w L l) (ha : Ws All w A t.reads) (hb : Ws All w B t.writes) (hn : Bs All w N nm) (hk : Bs All w K k) (hcn : t.reads.length ≤ n) (hcm : t.writes.length ≤ m) :
    Calls Try.prog 75 #[.slice L l.length c, .agg #[.int .i64 t.start, .slice A t.reads.length n, .slice B t.writes.length m], .slice N nm.length nc, .slice K k.length kc] w (RetLook w (lookS l t nm k)) := by
  have Hl := Lib.hid hl
  have Ha := Lib.hid ha
  have Hb := Lib.hid hb
  have Hn := Lib.hid hn
  have Hk := Lib.hid hk
  clear hl ha hb hn hk
  obtain ⟨hx, hy, hsz, hbl⟩ := alloc2 w (.cells #[.int .i64 t.start, .slice A t.reads.length n, .slice B t.writes.length m] 79) (.cells #[.bool false, .slice none 0 0] 25)
  have Hx := Lib.hid hx
  have Hy := Lib.hid hy
  have Hbl := Lib.hid hbl
  have Hsz := Lib.hid hsz
  clear hx hy hbl hsz
  by_cases g1 : bothS l t = 0
  · have b1' : (bothS l t != 0) = false := by simp [g1]
    by_cases g2 : nkFault nm k = 0
    · have Hcode := Lib.hid (show (forestGetS l nm k).2 = 0 by rw [forestGet_code (both_fine g1).1]; exact g2)
      have b2' : ((0 : Int) != 0) = false := by decide
      have Hg1 := Lib.hid g1
      have Hg2 := Lib.hid g2
      have hw10 := (txn_small' (both_fine g1).2).2
      clear g1 g2
      go_enter Try.func75, Try.ntmps75
      go_wp2_with (first
        | (go_at_call 143; refine (both_ok _ L l c A B t n m (Hl.out.below tenR_stays Hbl.out) (Ha.out.below wrR_stays Hbl.out) (Hb.out.below wrR_stays Hbl.out) hcn hcm).mono ?_; rintro e w1 ⟨rfl, hb1⟩; have hzz := Hsz.out; have hs1 := hb1.size; rw [hzz] at hs1; have Hx1 := Lib.hid ((hb1.block w.heap.size (by rw [hzz]; omega)).trans Hx.out); have Hy1 := Lib.hid ((hb1.block (w.heap.size + 1) (by rw [hzz]; omega)).trans Hy.out); have Hw1 := Lib.hid (Hbl.out.next hb1 (by rw [hzz]; omega)); obtain ⟨x0, x1, x2, _⟩ := box3 Hx1.out; obtain ⟨z0, z1, z2, z3⟩ := box2 Hy1.out; clear hb1 hzz)
        | (go_at_call 39; refine (forestGet_ok _ L l c N nm nc K k kc (Hl.out.below tenR_stays Hw1.out) (Hn.out.bbelow Hw1.out) (Hk.out.bbelow Hw1.out)).mono ?_; rintro e w3 ⟨A3, c3, rfl, gs3, hb3⟩; rw [Hcode.out]; have hs3 := hb3.size; have Gs3 := Lib.hid gs3; have Hx3 := Lib.hid ((hb3.block w.heap.size (by omega)).trans Hx1.out); have Hy3 := Lib.hid ((hb3.block (w.heap.size + 1) (by omega)).trans Hy1.out); have Hw3 := Lib.hid (Hw1.out.next hb3 (by omega)); have hs3a : w.heap.size < w3.heap.size := (by omega); have hs3b : w.heap.size + 1 < w3.heap.size := (by omega); clear gs3 hb3 x0 x1 x2 z0 z1 z2 z3; obtain ⟨x0, x1, x2, _⟩ := box3 Hx3.out; obtain ⟨z0, z1, z2, z3⟩ := box2 Hy3.out))
      have HxF := Lib.hid ((heap_alloc_old w3 (.cells #[.bool (forestGetS l nm k).1.1, .slice A3 (forestGetS l nm k).1.2.length c3] 25) hs3a).trans Hx3.out)
      have HyF := Lib.hid ((heap_alloc_old w3 (.cells #[.bool (forestGetS l nm k).1.1, .slice A3 (forestGetS l nm k).1.2.length c3] 25) hs3b).trans Hy3.out)
      have HzF := Lib.hid (box_new w3 #[.bool (forestGetS l nm k).1.1, .slice A3 (forestGetS l nm k).1.2.length c3] 25)
      have HwF := Lib.hid (Hw3.out.alloc (by omega) (.cells #[.bool (forestGetS l nm k).1.1, .slice A3 (forestGetS l nm k).1.2.length c3] 25))
      have H34 := Lib.hid (show Below w3.heap.size w3 (w3.alloc (.cells #[.bool (forestGetS l nm k).1.1, .slice A3 (forestGetS l nm k).1.2.length c3] 25)) from (Below.refl _ _).alloc (Nat.le_refl _) _)
      have hsF : w3.heap.size + 1 ≤ (w3.alloc (.cells #[.bool (forestGetS l nm k).1.1, .slice A3 (forestGetS l nm k).1.2.length c3] 25)).heap.size := by simp
      generalize w3.alloc (.cells #[.bool (forestGetS l nm k).1.1, .slice A3 (forestGetS l nm k).1.2.length c3] 25) = wF at *
      clear b1' b2' x0 x1 x2 z0 z1 z2 z3

      go_loopw [37] (fun i wr => ∃ j : Nat, j ≤ t.writes.length ∧ i = .int .i64 j ∧ (t.writes.take j).any (atPlace nm k) = false ∧ Below wF.heap.size wF wr) (fun i _ => t.writes.length - (intOf i).toNat)
      case atStart => exact ⟨0, by omega, rfl, rfl, Below.refl _ _⟩
      case round =>
        obtain ⟨j, hj, rfl, hno, hbel⟩ := hrel
        have Hno := Lib.hid hno
        have Hbel := Lib.hid hbel
        have hbz := hbel.size
        have hsF := hsF
        obtain ⟨x0, x1, x2, _⟩ := box3 ((hbel.block _ (by omega)).trans HxF.out)
        have Hyr := Lib.hid ((hbel.block (w.heap.size + 1) (by omega)).trans HyF.out)
        obtain ⟨z0, z1, z2, z3⟩ := box2 Hyr.out
        have Hbwr := Lib.hid (HwF.out.next hbel (by omega))
        have hzy : w.heap.size + 1 < wr.heap.size := by omega
        clear hbel hno
        by_cases hlt : j < t.writes.length
        · obtain ⟨g, off, A1, a1, B1, b1, C1, c1, hX, _, hal, hc1, hc2, hc3, hc4, hs1, hs2, hs3, _, _, hb3⟩ := wrs_at (Hb.out.below wrR_stays Hbwr.out) hlt
          subst hX
          have Hnext := Lib.hid (fun h => any_next (q := atPlace nm k) hlt Hno.out h)
          have Hfind := Lib.hid (fun h => find_here (q := atPlace nm k) hlt Hno.out h)
          generalize t.writes[j] = x at *
          have Hs1 := Lib.hid hs1.bz
          have Hs2 := Lib.hid hs2.bz
          have Hs3 := Lib.hid hs3.bz
          have Hbx := Lib.hid (show Below wr.heap.size wr (wr.alloc (.cells #[.slice A1 x.name.length a1, .slice B1 x.key.length b1, .bool x.flag, .slice C1 x.value.length c1] 94)) from (Below.refl _ _).alloc (Nat.le_refl _) _)
          clear hs1 hs2 hs3
          have Hdef := Lib.hid (show atPlace nm k x = (x.name == nm && x.key == k) from rfl)
          have Hpl := Lib.hid (show samePl x ⟨nm, k, false, []⟩ = (x.name == nm && x.key == k) from rfl)
          rcases Bool.eq_false_or_eq_true (x.name == nm) with d1 | d1
          · rcases Bool.eq_false_or_eq_true (x.key == k) with d2 | d2
            · have Hv := Lib.hid (show lookS l t nm k = (((!x.flag, x.value), true), 0) by unfold lookS; rw [if_neg (by rw [Hg1.out]; decide), if_neg (by rw [Hg2.out]; decide), Hfind.out (by rw [Hdef.out, d1, d2]; rfl)])
              go_wp2_with (go_at_call 129; refine (progSamePlace_ok _ A1 B1 C1 N K none x ⟨nm, k, false, []⟩ a1 b1 c1 nc kc 0 (Hs1.out.bbelow Hbx.out) (Hs2.out.bbelow Hbx.out) (Hs3.out.bbelow Hbx.out) ((Hn.out.bbelow Hbwr.out).bbelow Hbx.out) ((Hk.out.bbelow Hbwr.out).bbelow Hbx.out) SL.nil).mono ?_; rintro e w2 ⟨rfl, hb2⟩; rw [Hpl.out]; have hb2' : Below (wr.heap.size + 1) (wr.alloc (.cells #[.slice A1 x.name.length a1, .slice B1 x.key.length b1, .bool x.flag, .slice C1 x.value.length c1] 94)) w2 := hb2.mono (by simp); have hs2 := hb2'.size; have Hq2 := Lib.hid ((hb2'.block wr.heap.size (by omega)).trans (box_new wr _ _)); have Hy2 := Lib.hid ((hb2'.block (w.heap.size + 1) (by omega)).trans ((heap_alloc_old _ _ hzy).trans Hyr.out)); clear z0 z1 z2 z3; obtain ⟨q0, q1, q2, q3, _⟩ := box4 Hq2.out; obtain ⟨z0, z1, z2, z3⟩ := box2 Hy2.out; have hz2 : w.heap.size + 1 < w2.heap.size := (by simp at hs2; omega))
              go_region_held3 (fun w' => w'.cell? ⟨wr.heap.size, 2, none⟩ = some (.bool x.flag) ∧ w'.cell? ⟨wr.heap.size, 3, none⟩ = some (.slice C1 x.value.length c1))
                (first
                  | go_keep
                  | exact ⟨v2, v3⟩
                  | exact ⟨((((Same.refl (fun b => b = wr.heap.size) w5).setCell (fun h => by simp only [] at h; omega) _).setCell (fun h => by simp only [] at h; omega) _).cell rfl hz5').trans v2, ((((Same.refl (fun b => b = wr.heap.size) w5).setCell (fun h => by simp only [] at h; omega) _).setCell (fun h => by simp only [] at h; omega) _).cell rfl hz5').trans v3⟩)
                ((go_at_call 86; (with_reducible refine (clone_ok _ C1 x.value c1 ?ha hb3).mono ?_); (case ha => exact ((Hs3.out.bbelow Hbx.out).bbelow hb2).bsame (by repeat' (first | exact Same.refl _ _ | assumption | refine Same.drew ?_ | refine Same.drewN ?_ _ | refine Same.alloc ?_ _ | refine Same.setCell ?_ (fun hq => by simp only [From] at hq; first | omega | (simp at hq; done) | (simp at hq; omega)) _))); rintro e w5 ⟨A5, c5, rfl, gs5, hb5⟩; have hb5' : Below w2.heap.size w2 w5 := (Below.refl _ _).drew.next hb5 (by simp); have hs2' : wr.heap.size < w2.heap.size := (by simp at hs2; omega); obtain ⟨v0, v1, v2, v3, _⟩ := box4 ((hb5'.block wr.heap.size hs2').trans Hq2.out); obtain ⟨z0, z1, z2, z3⟩ := box2 ((hb5'.block (w.heap.size + 1) hz2).trans Hy2.out); have hs5 := hb5'.size; have hz5 : w.heap.size + 1 < w5.heap.size := (by omega); have hz5' : wr.heap.size < w5.heap.size := (by omega)))
              go_wp2
              refine bodyPost_ret (v := .tuple #[.agg #[.bool (!x.flag), .slice A5 x.value.length c5], .bool true, .int .i64 0]) (by simp [results, Try.results75, go_sem, z0, z1]) rfl ?_
              rw [Hv.out]
              refine ⟨A5, c5, rfl, ?_, ?_⟩
              · exact (gs5.bsame (((Same.refl _ _).setCell (fun h => by simp only [From] at h; simp at h; omega) _).setCell (fun h => by simp only [From] at h; simp at h; omega) _)).blo (by simp; omega)
              · exact (((((Hbwr.out.next Hbx.out (by omega)).next hb2 (by simp; omega)).next hb5' (by omega)).setCell (by simp only []; omega) _).setCell (by simp only []; omega) _)
            · have Hn1 := Lib.hid (Hnext.out (by rw [Hdef.out, d1, d2]; rfl))
              go_wp2_with (go_at_call 129; refine (progSamePlace_ok _ A1 B1 C1 N K none x ⟨nm, k, false, []⟩ a1 b1 c1 nc kc 0 (Hs1.out.bbelow Hbx.out) (Hs2.out.bbelow Hbx.out) (Hs3.out.bbelow Hbx.out) ((Hn.out.bbelow Hbwr.out).bbelow Hbx.out) ((Hk.out.bbelow Hbwr.out).bbelow Hbx.out) SL.nil).mono ?_; rintro e w2 ⟨rfl, hb2⟩; rw [Hpl.out]; have hb2' : Below (wr.heap.size + 1) (wr.alloc (.cells #[.slice A1 x.name.length a1, .slice B1 x.key.length b1, .bool x.flag, .slice C1 x.value.length c1] 94)) w2 := hb2.mono (by simp); have hs2 := hb2'.size; have Hq2 := Lib.hid ((hb2'.block wr.heap.size (by omega)).trans (box_new wr _ _)); have Hy2 := Lib.hid ((hb2'.block (w.heap.size + 1) (by omega)).trans ((heap_alloc_old _ _ hzy).trans Hyr.out)); clear z0 z1 z2 z3; obtain ⟨q0, q1, q2, q3, _⟩ := box4 Hq2.out; obtain ⟨z0, z1, z2, z3⟩ := box2 Hy2.out; have hz2 : w.heap.size + 1 < w2.heap.size := (by simp at hs2; omega))
              go_roundw
              case rel => exact ⟨j + 1, by omega, by go_num, Hn1.out, (Hbel.out.next Hbx.out hbz).next hb2 (by simp; omega)⟩
              case measure => simp [intOf]; omega
          · have Hn1 := Lib.hid (Hnext.out (by rw [Hdef.out, d1]; rfl))
            go_wp2_with (go_at_call 129; refine (progSamePlace_ok _ A1 B1 C1 N K none x ⟨nm, k, false, []⟩ a1 b1 c1 nc kc 0 (Hs1.out.bbelow Hbx.out) (Hs2.out.bbelow Hbx.out) (Hs3.out.bbelow Hbx.out) ((Hn.out.bbelow Hbwr.out).bbelow Hbx.out) ((Hk.out.bbelow Hbwr.out).bbelow Hbx.out) SL.nil).mono ?_; rintro e w2 ⟨rfl, hb2⟩; rw [Hpl.out]; have hb2' : Below (wr.heap.size + 1) (wr.alloc (.cells #[.slice A1 x.name.length a1, .slice B1 x.key.length b1, .bool x.flag, .slice C1 x.value.length c1] 94)) w2 := hb2.mono (by simp); have hs2 := hb2'.size; have Hq2 := Lib.hid ((hb2'.block wr.heap.size (by omega)).trans (box_new wr _ _)); have Hy2 := Lib.hid ((hb2'.block (w.heap.size + 1) (by omega)).trans ((heap_alloc_old _ _ hzy).trans Hyr.out)); clear z0 z1 z2 z3; obtain ⟨q0, q1, q2, q3, _⟩ := box4 Hq2.out; obtain ⟨z0, z1, z2, z3⟩ := box2 Hy2.out; have hz2 : w.heap.size + 1 < w2.heap.size := (by simp at hs2; omega))
            go_roundw
            case rel => exact ⟨j + 1, by omega, by go_num, Hn1.out, (Hbel.out.next Hbx.out hbz).next hb2 (by simp; omega)⟩
            case measure => simp [intOf]; omega
        · obtain rfl : j = t.writes.length := by omega
          have hf := Hno.out
          rw [List.take_length] at hf
          have Hv := Lib.hid (show lookS l t nm k = (((forestGetS l nm k).1, false), 0) by unfold lookS; rw [if_neg (by rw [Hg1.out]; decide), if_neg (by rw [Hg2.out]; decide), find_none hf])
          clear hf
          obtain ⟨f0, f1, _, _⟩ := box2 ((Hbel.out.block w3.heap.size (by omega)).trans HzF.out)
          go_wp2
          refine bodyPost_ret (v := .tuple #[.agg #[.bool (forestGetS l nm k).1.1, .slice A3 (forestGetS l nm k).1.2.length c3], .bool false, .int .i64 0]) (by simp [results, Try.results75, go_sem, z0, z1]) rfl ?_
          rw [Hv.out]
          refine ⟨A3, c3, rfl, ?_, ?_⟩
          · exact ((Gs3.out.bbelow (H34.out.next Hbel.out (by omega))).bsame (((Same.refl _ _).setCell (fun h => by simp only [From] at h; omega) _).setCell (fun h => by simp only [From] at h; omega) _)).blo (by omega)
          · exact ((Hbwr.out.setCell (by simp only []; omega) _).setCell (by simp only []; omega) _)
    · have Hbadg := Lib.hid (forestGet_bad (both_fine g1).1 g2)
      have b2' : (nkFault nm k != 0) = true := by simpa using g2
      have Hv := Lib.hid (show lookS l t nm k = (((false, []), false), nkFault nm k) by
        unfold lookS; rw [if_neg (by simpa using g1), if_pos g2])
      clear g1 g2
      go_enter Try.func75, Try.ntmps75
      go_wp2_with (first
        | (go_at_call 143; refine (both_ok _ L l c A B t n m (Hl.out.below tenR_stays Hbl.out) (Ha.out.below wrR_stays Hbl.out) (Hb.out.below wrR_stays Hbl.out) hcn hcm).mono ?_; rintro e w1 ⟨rfl, hb1⟩; have hzz := Hsz.out; have hs1 := hb1.size; rw [hzz] at hs1; have Hx1 := Lib.hid ((hb1.block w.heap.size (by rw [hzz]; omega)).trans Hx.out); have Hy1 := Lib.hid ((hb1.block (w.heap.size + 1) (by rw [hzz]; omega)).trans Hy.out); have Hw1 := Lib.hid (Hbl.out.next hb1 (by rw [hzz]; omega)); obtain ⟨x0, x1, x2, _⟩ := box3 Hx1.out; obtain ⟨z0, z1, z2, z3⟩ := box2 Hy1.out; clear hb1 hzz)
        | (go_at_call 39; refine (forestGet_ok _ L l c N nm nc K k kc (Hl.out.below tenR_stays Hw1.out) (Hn.out.bbelow Hw1.out) (Hk.out.bbelow Hw1.out)).mono ?_; rw [Hbadg.out]; rintro e w3 ⟨A3, c3, rfl, gs3, hb3⟩; have hs3 := hb3.size; have Gs3 := Lib.hid gs3; have Hx3 := Lib.hid ((hb3.block w.heap.size (by omega)).trans Hx1.out); have Hy3 := Lib.hid ((hb3.block (w.heap.size + 1) (by omega)).trans Hy1.out); have Hw3 := Lib.hid (Hw1.out.next hb3 (by omega)); have hs3a : w.heap.size < w3.heap.size := (by omega); have hs3b : w.heap.size + 1 < w3.heap.size := (by omega); clear gs3 hb3 x0 x1 x2 z0 z1 z2 z3; obtain ⟨x0, x1, x2, _⟩ := box3 Hx3.out; obtain ⟨z0, z1, z2, z3⟩ := box2 Hy3.out))
      refine bodyPost_ret (v := .tuple #[.agg #[.bool false, .slice none 0 0], .bool false, .int .i64 (nkFault nm k)]) (by simp [results, Try.results75, go_sem, z0, z1, hs3b]) rfl ?_
      rw [Hv.out]
      exact ⟨none, 0, rfl, SL.nil, (((Hw3.out.setCell (by simp only []; omega) _).setCell (by simp only []; omega) _).alloc (by simp; omega) _)⟩
  · have b1' : (bothS l t != 0) = true := by simpa using g1
    have Hv := Lib.hid (show lookS l t nm k = (((false, []), false), bothS l t) by
      unfold lookS; rw [if_pos g1])
    clear g1
    go_enter Try.func75, Try.ntmps75
    go_wp2_with (first
      | (go_at_call 143; refine (both_ok _ L l c A B t n m (Hl.out.below tenR_stays Hbl.out) (Ha.out.below wrR_stays Hbl.out) (Hb.out.below wrR_stays Hbl.out) hcn hcm).mono ?_; rintro e w1 ⟨rfl, hb1⟩; have hzz := Hsz.out; have hs1 := hb1.size; rw [hzz] at hs1; have Hx1 := Lib.hid ((hb1.block w.heap.size (by rw [hzz]; omega)).trans Hx.out); have Hy1 := Lib.hid ((hb1.block (w.heap.size + 1) (by rw [hzz]; omega)).trans Hy.out); have Hw1 := Lib.hid (Hbl.out.next hb1 (by rw [hzz]; omega)); obtain ⟨x0, x1, x2, _⟩ := box3 Hx1.out; obtain ⟨z0, z1, z2, z3⟩ := box2 Hy1.out; clear hb1 hzz))
    refine bodyPost_ret (v := .tuple #[.agg #[.bool false, .slice none 0 0], .bool false, .int .i64 (bothS l t)]) (by simp [results, Try.results75, go_sem, z0, z1]) rfl ?_
    rw [Hv.out]
    exact ⟨none, 0, rfl, SL.nil, ((Hw1.out.setCell (by simp only []; omega) _).setCell (by simp only []; omega) _)⟩
end Go.Proofs.Ythhcdibimnifaaa
