/- Walks: txn.Scan and Scanned; the law TxnScans. -/
import Derived.Test.YthhcdibimnifaaaLook
namespace Go.Proofs.Ythhcdibimnifaaa
open Go.RowKit
set_option linter.unusedVariables false
set_option linter.unusedSimpArgs false

def scanSkip (n f m : List UInt8) (x : Wr) : Bool := !(x.name == n) || (lt x.key f || lt m x.key)
def scanStep (n f m : List UInt8) (s : List Pr × Int) (x : Wr) : List Pr × Int :=
  if s.2 ≠ 0 then s else if scanSkip n f m x = true then s else if (nextS s.1 x).2 ≠ 0 then ([], (nextS s.1 x).2) else nextS s.1 x
def scanTo (n f m : List UInt8) (s : List Pr × Int) (ws : List Wr) : List Pr × Int := ws.foldl (scanStep n f m) s
/-- What Scan and Scanned answer. -/
def scanS (l : List Tn) (t : Tx) (n f m : List UInt8) : List Pr × Int :=
  if bothS l t ≠ 0 then ([], bothS l t) else if (forestRangeS l n f m).2 ≠ 0 then ([], (forestRangeS l n f m).2) else scanTo n f m (forestRangeS l n f m) t.writes
theorem scanTo_next {n f m : List UInt8} {s : List Pr × Int} {ws : List Wr} {k : Nat} (h : k < ws.length) : scanTo n f m s (ws.take (k + 1)) = scanStep n f m (scanTo n f m s (ws.take k)) ws[k] := by
  unfold scanTo
  rw [take_snoc ws k h, List.foldl_append]
  rfl
theorem scan_stuck {n f m : List UInt8} : ∀ (ws : List Wr) {s : List Pr × Int}, s.2 ≠ 0 → scanTo n f m s ws = s
  | [], _, _ => rfl
  | x :: ws, s, h => by
    have e : scanStep n f m s x = s := by unfold scanStep; rw [if_pos h]
    show scanTo n f m (scanStep n f m s x) ws = s
    rw [e]
    exact scan_stuck ws h
theorem scan_err {n f m : List UInt8} {s : List Pr × Int} {ws : List Wr} {k : Nat} {e : Int} (hk : k < ws.length) (h : scanStep n f m (scanTo n f m s (ws.take k)) ws[k] = ([], e)) (he : e ≠ 0) : scanTo n f m s ws = ([], e) := by
  have h1 := scanTo_next (n := n) (f := f) (m := m) (s := s) hk
  rw [h] at h1
  have h2 : scanTo n f m s ws = scanTo n f m (scanTo n f m s (ws.take (k + 1))) (ws.drop (k + 1)) := by
    unfold scanTo
    rw [← List.foldl_append, List.take_append_drop]
  rw [h2, h1]
  exact scan_stuck _ he
theorem step_skip {n f m : List UInt8} {s : List Pr} {x : Wr} (h : scanSkip n f m x = true) : scanStep n f m (s, 0) x = (s, 0) := by
  unfold scanStep
  rw [if_neg (by simp), if_pos h]
theorem step_del {n f m : List UInt8} {s : List Pr} {x : Wr} (h : scanSkip n f m x = false) (hf : x.flag = true) (hz : (delS s x.key).2 = 0) : scanStep n f m (s, 0) x = ((delS s x.key).1, 0) := by
  have hN : nextS s x = delS s x.key := by
    unfold nextS
    rw [if_pos hf]
  unfold scanStep
  rw [if_neg (by simp), if_neg (by simp [h])]
  dsimp only
  rw [hN, if_neg (by simpa using hz)]
  exact Prod.ext rfl hz
theorem next_put {s : List Pr} {x : Wr} (hf : x.flag = false) : nextS s x = putS s (x.key, x.value) := by
  unfold nextS
  rw [if_neg (by simp [hf])]
theorem step_put {n f m : List UInt8} {s : List Pr} {x : Wr} (h : scanSkip n f m x = false) (hf : x.flag = false) (hz : (putS s (x.key, x.value)).2 = 0) : scanStep n f m (s, 0) x = ((putS s (x.key, x.value)).1, 0) := by
  unfold scanStep
  rw [if_neg (by simp), if_neg (by simp [h])]
  dsimp only
  rw [next_put hf, if_neg (by simpa using hz)]
  exact Prod.ext rfl hz
theorem step_bad {n f m : List UInt8} {s : List Pr} {x : Wr} (h : scanSkip n f m x = false) (hf : x.flag = false) (hz : (putS s (x.key, x.value)).2 ≠ 0) : scanStep n f m (s, 0) x = ([], (putS s (x.key, x.value)).2) := by
  unfold scanStep
  rw [if_neg (by simp), if_neg (by simp [h])]
  dsimp only
  rw [next_put hf, if_pos hz]
theorem txn_writes_fine {t : Tx} (h : txnFaultS t = 0) {i : Nat} (hi : i < t.writes.length) : writeFaultS t.writes[i] = 0 := by
  unfold txnFaultS at h
  split at h
  · cases h
  · split at h
    · cases h
    · split at h
      · rename_i h'; exact absurd h h'
      · have hz := firstBad_zero _ _ h i hi
        rw [Nat.zero_add, placeAt_eq _ _ hi] at hz
        unfold stepE at hz
        by_cases hf : writeFaultS t.writes[i] = 0
        · exact hf
        · rw [if_pos hf] at hz; exact hz
theorem wr_key_fine {x : Wr} (h : writeFaultS x = 0) (hf : x.flag = true) : keyFault x.key = 0 := by
  unfold writeFaultS at h
  by_cases hn : nameFault x.name = 0
  · rw [if_neg (by simpa using hn), if_pos hf] at h
    by_cases hk : keyFault x.key = 0
    · exact hk
    · rw [if_pos hk] at h; exact absurd h hk
  · rw [if_pos hn] at h; exact absurd h hn
theorem range_fine {l : List Tn} {n f m : List UInt8} (h : (forestRangeS l n f m).2 = 0) : pairsFaultS (forestRangeS l n f m).1 = 0 := by
  unfold forestRangeS at h ⊢
  split
  · rename_i h1; rw [if_pos h1] at h; exact absurd h h1
  · rename_i h1
    rw [if_neg h1] at h
    unfold rangeS at h ⊢
    split
    · rename_i h2; rw [if_pos h2] at h; exact absurd h h2
    · rename_i h2
      have h3 : pairsFaultS (pairsOfS l n) = 0 := by
        have h2' : rangeFault (pairsOfS l n) f m = 0 := by simpa using h2
        unfold rangeFault at h2'
        split at h2'
        · rename_i h4; exact absurd h2' h4
        · rename_i h4; simpa using h4
      obtain ⟨g1, g2, g3⟩ := (pairs_fault_iff _).1 h3
      refine (pairs_fault_iff _).2 ⟨Nat.le_trans (List.length_filter_le _ _) g1, fun p hp => g2 p (List.mem_filter.1 hp).1, rise_filter g3 _⟩
def nkkFault (n f m : List UInt8) : Int := if nameFault n ≠ 0 then nameFault n else if keyFault f ≠ 0 then keyFault f else keyFault m
theorem range_code {l : List Tn} {n f m : List UInt8} (h : forestFaultS l = 0) : (forestRangeS l n f m).2 = nkkFault n f m := by
  unfold forestRangeS fnFault nkkFault
  by_cases h1 : nameFault n = 0
  · simp only [h, ne_eq, not_true_eq_false, if_false, h1]
    unfold rangeS rangeFault
    have h2 := Fine.old (n := n) h
    simp only [h2, ne_eq, not_true_eq_false, if_false]
    by_cases h3 : keyFault f = 0
    · by_cases h4 : keyFault m = 0
      · simp [h3, h4]
      · simp [h3, h4]
    · simp [h3]
  · simp [h, h1]

set_option maxRecDepth 100000 in
set_option maxHeartbeats 8000000 in
theorem scanned_ok (w : World) (L : Option Addr) (l : List Tn) (c : Nat) (A B : Option Addr) (t : Tx) (n m : Nat) (N : Option Addr) (nm : List UInt8) (nc : Nat) (F : Option Addr) (fr : List UInt8) (fc : Nat) (M : Option Addr) (to : List UInt8) (mc : Nat) (hl : Ts All w L l) (ha : Ws All w A t.reads) (hb : Ws All w B t.writes) (hn : Bs All w N nm) (hf : Bs All w F fr) (hm : Bs All w M to) :
    Calls Try.prog 78 #[.slice L l.length c, .agg #[.int .i64 t.start, .slice A t.reads.length n, .slice B t.writes.length m], .slice N nm.length nc, .slice F fr.length fc, .slice M to.length mc] w (RetPE w (scanS l t nm fr to)) := by
  have Hl := Lib.hid hl
  have Ha := Lib.hid ha
  have Hb := Lib.hid hb
  have Hn := Lib.hid hn
  have Hf := Lib.hid hf
  have Hm := Lib.hid hm
  clear hl ha hb hn hf hm
  have Hbl := Lib.hid (show Below w.heap.size w (w.alloc (.cells #[.int .i64 t.start, .slice A t.reads.length n, .slice B t.writes.length m] 79)) from (Below.refl _ _).alloc (Nat.le_refl _) _)
  have Hx := Lib.hid (box_new w #[.int .i64 t.start, .slice A t.reads.length n, .slice B t.writes.length m] 79)
  by_cases g1 : bothS l t = 0
  · have b1 : (bothS l t == 0) = true := by simp [g1]
    have b1' : (bothS l t != 0) = false := by simp [g1]
    have Hcd := Lib.hid (range_code (n := nm) (f := fr) (m := to) (both_fine g1).1)
    by_cases g2 : nameFault nm = 0
    · have b2 : (nameFault nm == 0) = true := by simp [g2]
      by_cases g3 : keyFault fr = 0
      · have b3 : (keyFault fr == 0) = true := by simp [g3]
        by_cases g4 : keyFault to = 0
        · have b4 : (keyFault to != 0) = false := by simp [g4]
          have Hg1 := Lib.hid g1
          have Hrz := Lib.hid (show (forestRangeS l nm fr to).2 = 0 by rw [Hcd.out]; unfold nkkFault; rw [if_neg (by simpa using g2), if_neg (by simpa using g3)]; exact g4)
          have Hwf := Lib.hid (fun (i : Nat) (hi : i < t.writes.length) => txn_writes_fine (both_fine g1).2 hi)
          have hw10 := (txn_small' (both_fine g1).2).2
          clear g1 g2 g3 g4
          go_enter Try.func78, Try.ntmps78
          go_wp2_with (first
            | (go_at_call 144; refine (forestAndTxn_ok _ L l c A B t n m (Hl.out.below tenR_stays Hbl.out) (Ha.out.below wrR_stays Hbl.out) (Hb.out.below wrR_stays Hbl.out)).mono ?_; rintro e w1 ⟨rfl, hb1⟩; have hs1 : w.heap.size < w1.heap.size := (by have := hb1.size; simp at this; omega); have Hx1 := Lib.hid ((hb1.block w.heap.size (by simp)).trans Hx.out); have Hw1 := Lib.hid (Hbl.out.next hb1 (by simp)); obtain ⟨x0, x1, x2, _⟩ := box3 Hx1.out; clear hb1)
            | (go_at_call 105; refine (nameFault_ok _ N nm nc).mono ?_; rintro e w5 ⟨rfl, rfl⟩)
            | (go_at_call_of 92 F; (with_reducible refine (keyFault_ok _ F fr fc).mono ?_); rintro e w5 ⟨rfl, rfl⟩)
            | (go_at_call_of 92 M; (with_reducible refine (keyFault_ok _ M to mc).mono ?_); rintro e w5 ⟨rfl, rfl⟩)
            | (go_at_call 42; refine (refForestRange_ok _ L l c N nm nc F fr fc M to mc (Hl.out.below tenR_stays Hw1.out) (Hn.out.bbelow Hw1.out) (Hf.out.bbelow Hw1.out) (Hm.out.bbelow Hw1.out)).mono ?_; rintro e w2 ⟨R, rc, rfl, hrc, gs2, hb2⟩; have hs2 := hb2.size; have Hx2 := Lib.hid ((hb2.block w.heap.size (by omega)).trans Hx1.out); have Hw2 := Lib.hid (Hw1.out.next hb2 (by omega)); have Gs2 := Lib.hid gs2; clear gs2 hb2 x0 x1 x2; obtain ⟨x0, x1, x2, _⟩ := box3 Hx2.out))
          clear b1 b1' b2 b3 b4 x0 x1 x2
          go_loopw [13, 15] (fun v i wr => ∃ (k : Nat) (s : List Pr) (O : Option Addr) (co : Nat), k ≤ t.writes.length ∧ i = .int .i64 k ∧ scanTo nm fr to (forestRangeS l nm fr to) (t.writes.take k) = (s, 0) ∧ pairsFaultS s = 0 ∧ v = .slice O s.length co ∧ s.length ≤ co ∧ Ps (From w.heap.size) wr O s ∧ Below w2.heap.size w2 wr) (fun _ i _ => t.writes.length - (intOf i).toNat)
          case atStart => exact ⟨0, (forestRangeS l nm fr to).1, R, rc, by omega, rfl, Prod.ext rfl Hrz.out, range_fine Hrz.out, rfl, hrc, Gs2.out.lo pairR_stays (by omega), Below.refl _ _⟩
          case round =>
            obtain ⟨k, s, O, co, hk, rfl, hcur, hsf, rfl, hco, ho, hbel⟩ := hrel
            have Hcur := Lib.hid hcur
            have Hsf := Lib.hid hsf
            have HO := Lib.hid ho
            have Hbel := Lib.hid hbel
            have hbz := hbel.size
            have Hbwr := Lib.hid (Hw2.out.next hbel (by omega))
            obtain ⟨x0, x1, x2, _⟩ := box3 ((hbel.block _ (by omega)).trans Hx2.out)
            clear hcur hsf ho hbel
            by_cases hlt : k < t.writes.length
            · obtain ⟨g, off, A1, a1, B1, b1, C1, c1, hX, _, hal, hc1, hc2, hc3, hc4, hs1, hs2, hs3, _, _, _⟩ := wrs_at (Hb.out.below wrR_stays Hbwr.out) hlt
              subst hX
              have Hnext := Lib.hid (scanTo_next (n := nm) (f := fr) (m := to) (s := forestRangeS l nm fr to) hlt)
              have Herr := Lib.hid (fun e h he => scan_err (n := nm) (f := fr) (m := to) (s := forestRangeS l nm fr to) (e := e) hlt h he)
              have Hfx := Lib.hid (Hwf.out k hlt)
              generalize t.writes[k] = x at *
              have Hs1 := Lib.hid hs1.bz
              have Hs2 := Lib.hid hs2.bz
              have Hs3 := Lib.hid hs3.bz
              have Hbx := Lib.hid (show Below wr.heap.size wr (wr.alloc (.cells #[.slice A1 x.name.length a1, .slice B1 x.key.length b1, .bool x.flag, .slice C1 x.value.length c1] 94)) from (Below.refl _ _).alloc (Nat.le_refl _) _)
              clear hs1 hs2 hs3
              rcases Bool.eq_false_or_eq_true (x.name == nm) with d1 | d1
              · rcases Bool.eq_false_or_eq_true (lt x.key fr) with d2 | d2
                · have Hst := Lib.hid (show scanTo nm fr to (forestRangeS l nm fr to) (t.writes.take (k + 1)) = (s, 0) by rw [Hnext.out, Hcur.out]; exact step_skip (by simp [scanSkip, d1, d2]))
                  go_wp2_with (first
                              | (go_at_call_of 89 A1; (with_reducible refine (refSameBytes_ok _ A1 N x.name nm a1 nc ?hx ?hy).mono ?_); (case hx => exact Hs1.out.bbelow Hbx.out); (case hy => exact (Hn.out.bbelow Hbwr.out).bbelow Hbx.out); rintro e w5 ⟨rfl, rfl⟩)
                              | (go_at_call_of 93 B1; (with_reducible refine (before_ok _ B1 F x.key fr b1 fc ?hx ?hy).mono ?_); (case hx => exact Hs2.out.bbelow Hbx.out); (case hy => exact (Hf.out.bbelow Hbwr.out).bbelow Hbx.out); rintro e w5 ⟨rfl, rfl⟩)
                              | (go_at_call_of 93 M; (with_reducible refine (before_ok _ M B1 to x.key mc b1 ?hx ?hy).mono ?_); (case hx => exact (Hm.out.bbelow Hbwr.out).bbelow Hbx.out); (case hy => exact Hs2.out.bbelow Hbx.out); rintro e w5 ⟨rfl, rfl⟩))
                  go_roundw
                  case rel => exact ⟨k + 1, s, O, co, by omega, by go_num, Hst.out, Hsf.out, rfl, hco, HO.out.below pairR_stays Hbx.out, Hbel.out.next Hbx.out hbz⟩
                  case measure => simp [intOf]; omega
                · 
                  rcases Bool.eq_false_or_eq_true (lt to x.key) with d3 | d3
                  · have Hst := Lib.hid (show scanTo nm fr to (forestRangeS l nm fr to) (t.writes.take (k + 1)) = (s, 0) by rw [Hnext.out, Hcur.out]; exact step_skip (by simp [scanSkip, d1, d2, d3]))
                    go_wp2_with (first
                              | (go_at_call_of 89 A1; (with_reducible refine (refSameBytes_ok _ A1 N x.name nm a1 nc ?hx ?hy).mono ?_); (case hx => exact Hs1.out.bbelow Hbx.out); (case hy => exact (Hn.out.bbelow Hbwr.out).bbelow Hbx.out); rintro e w5 ⟨rfl, rfl⟩)
                              | (go_at_call_of 93 B1; (with_reducible refine (before_ok _ B1 F x.key fr b1 fc ?hx ?hy).mono ?_); (case hx => exact Hs2.out.bbelow Hbx.out); (case hy => exact (Hf.out.bbelow Hbwr.out).bbelow Hbx.out); rintro e w5 ⟨rfl, rfl⟩)
                              | (go_at_call_of 93 M; (with_reducible refine (before_ok _ M B1 to x.key mc b1 ?hx ?hy).mono ?_); (case hx => exact (Hm.out.bbelow Hbwr.out).bbelow Hbx.out); (case hy => exact Hs2.out.bbelow Hbx.out); rintro e w5 ⟨rfl, rfl⟩))
                    go_roundw
                    case rel => exact ⟨k + 1, s, O, co, by omega, by go_num, Hst.out, Hsf.out, rfl, hco, HO.out.below pairR_stays Hbx.out, Hbel.out.next Hbx.out hbz⟩
                    case measure => simp [intOf]; omega
                  · 
                    have Hsk := Lib.hid (show scanSkip nm fr to x = false by simp [scanSkip, d1, d2, d3])
                    rcases Bool.eq_false_or_eq_true x.flag with hfl | hfl
                    · have Hdz := Lib.hid (show (delS s x.key).2 = 0 by rw [delS_err Hsf.out]; exact wr_key_fine Hfx.out hfl)
                      have Hst := Lib.hid (show scanTo nm fr to (forestRangeS l nm fr to) (t.writes.take (k + 1)) = ((delS s x.key).1, 0) by rw [Hnext.out, Hcur.out]; exact step_del Hsk.out hfl Hdz.out)
                      have d5 : ((0 : Int) != 0) = false := by decide
                      rw [hfl] at hc3 Hbx
                      go_wp2_with (first
                              | (go_at_call_of 89 A1; (with_reducible refine (refSameBytes_ok _ A1 N x.name nm a1 nc ?hx ?hy).mono ?_); (case hx => exact Hs1.out.bbelow Hbx.out); (case hy => exact (Hn.out.bbelow Hbwr.out).bbelow Hbx.out); rintro e w5 ⟨rfl, rfl⟩)
                              | (go_at_call_of 93 B1; (with_reducible refine (before_ok _ B1 F x.key fr b1 fc ?hx ?hy).mono ?_); (case hx => exact Hs2.out.bbelow Hbx.out); (case hy => exact (Hf.out.bbelow Hbwr.out).bbelow Hbx.out); rintro e w5 ⟨rfl, rfl⟩)
                              | (go_at_call_of 93 M; (with_reducible refine (before_ok _ M B1 to x.key mc b1 ?hx ?hy).mono ?_); (case hx => exact (Hm.out.bbelow Hbwr.out).bbelow Hbx.out); (case hy => exact Hs2.out.bbelow Hbx.out); rintro e w5 ⟨rfl, rfl⟩)
                              | (go_at_call 32; refine (deletedOf_ok _ O s co B1 x.key b1 ((HO.out.z pairR_stays).below pairR_stays Hbx.out) (Hs2.out.bbelow Hbx.out)).mono ?_; rintro e w6 ⟨O6, c6, rfl, hc6, gs6, hb6⟩; rw [Hdz.out]))
                      go_roundw
                      case rel => exact ⟨k + 1, _, O6, c6, by omega, by go_num, Hst.out, delS_fine Hdz.out, rfl, hc6, gs6.lo pairR_stays (by simp; omega), (Hbel.out.next Hbx.out hbz).next hb6 (by simp; omega)⟩
                      case measure => simp [intOf]; omega
                    · rw [hfl] at hc3 Hbx
                      by_cases hz : (putS s (x.key, x.value)).2 = 0
                      · have d5 : ((putS s (x.key, x.value)).2 != 0) = false := by simp [hz]
                        have Hst := Lib.hid (show scanTo nm fr to (forestRangeS l nm fr to) (t.writes.take (k + 1)) = ((putS s (x.key, x.value)).1, 0) by rw [Hnext.out, Hcur.out]; exact step_put Hsk.out hfl hz)
                        have Hpf := Lib.hid (putS_fine hz).1
                        clear hz
                        go_wp2_with (first
                              | (go_at_call_of 89 A1; (with_reducible refine (refSameBytes_ok _ A1 N x.name nm a1 nc ?hx ?hy).mono ?_); (case hx => exact Hs1.out.bbelow Hbx.out); (case hy => exact (Hn.out.bbelow Hbwr.out).bbelow Hbx.out); rintro e w5 ⟨rfl, rfl⟩)
                              | (go_at_call_of 93 B1; (with_reducible refine (before_ok _ B1 F x.key fr b1 fc ?hx ?hy).mono ?_); (case hx => exact Hs2.out.bbelow Hbx.out); (case hy => exact (Hf.out.bbelow Hbwr.out).bbelow Hbx.out); rintro e w5 ⟨rfl, rfl⟩)
                              | (go_at_call_of 93 M; (with_reducible refine (before_ok _ M B1 to x.key mc b1 ?hx ?hy).mono ?_); (case hx => exact (Hm.out.bbelow Hbwr.out).bbelow Hbx.out); (case hy => exact Hs2.out.bbelow Hbx.out); rintro e w5 ⟨rfl, rfl⟩)
                              | (go_at_call 35; refine (putOf_ok _ O s co B1 C1 (x.key, x.value) b1 c1 ((HO.out.z pairR_stays).below pairR_stays Hbx.out) (Hs2.out.bbelow Hbx.out) (Hs3.out.bbelow Hbx.out)).mono ?_; rintro e w6 ⟨O6, c6, rfl, hc6, gs6, hb6⟩))
                        go_roundw
                        case rel => exact ⟨k + 1, _, O6, c6, by omega, by go_num, Hst.out, Hpf.out, rfl, hc6, gs6.lo pairR_stays (by simp; omega), (Hbel.out.next Hbx.out hbz).next hb6 (by simp; omega)⟩
                        case measure => simp [intOf]; omega
                      · have d5 : ((putS s (x.key, x.value)).2 != 0) = true := by simpa using hz
                        have Hv := Lib.hid (show scanS l t nm fr to = ([], (putS s (x.key, x.value)).2) by unfold scanS; rw [if_neg (by rw [Hg1.out]; decide), if_neg (by rw [Hrz.out]; decide)]; exact Herr.out _ (by rw [Hcur.out]; exact step_bad Hsk.out hfl hz) hz)
                        clear hz
                        go_wp2_with (first
                              | (go_at_call_of 89 A1; (with_reducible refine (refSameBytes_ok _ A1 N x.name nm a1 nc ?hx ?hy).mono ?_); (case hx => exact Hs1.out.bbelow Hbx.out); (case hy => exact (Hn.out.bbelow Hbwr.out).bbelow Hbx.out); rintro e w5 ⟨rfl, rfl⟩)
                              | (go_at_call_of 93 B1; (with_reducible refine (before_ok _ B1 F x.key fr b1 fc ?hx ?hy).mono ?_); (case hx => exact Hs2.out.bbelow Hbx.out); (case hy => exact (Hf.out.bbelow Hbwr.out).bbelow Hbx.out); rintro e w5 ⟨rfl, rfl⟩)
                              | (go_at_call_of 93 M; (with_reducible refine (before_ok _ M B1 to x.key mc b1 ?hx ?hy).mono ?_); (case hx => exact (Hm.out.bbelow Hbwr.out).bbelow Hbx.out); (case hy => exact Hs2.out.bbelow Hbx.out); rintro e w5 ⟨rfl, rfl⟩)
                              | (go_at_call 35; refine (putOf_ok _ O s co B1 C1 (x.key, x.value) b1 c1 ((HO.out.z pairR_stays).below pairR_stays Hbx.out) (Hs2.out.bbelow Hbx.out) (Hs3.out.bbelow Hbx.out)).mono ?_; rintro e w6 ⟨O6, c6, rfl, hc6, gs6, hb6⟩))
                        go_ret2
                        rw [Hv.out]
                        exact ⟨none, 0, rfl, Nat.le_refl _, SL.nil, (Hbwr.out.next Hbx.out (by omega)).next hb6 (by simp; omega)⟩
              · have Hst := Lib.hid (show scanTo nm fr to (forestRangeS l nm fr to) (t.writes.take (k + 1)) = (s, 0) by rw [Hnext.out, Hcur.out]; exact step_skip (by simp [scanSkip, d1]))
                go_wp2_with (first
                              | (go_at_call_of 89 A1; (with_reducible refine (refSameBytes_ok _ A1 N x.name nm a1 nc ?hx ?hy).mono ?_); (case hx => exact Hs1.out.bbelow Hbx.out); (case hy => exact (Hn.out.bbelow Hbwr.out).bbelow Hbx.out); rintro e w5 ⟨rfl, rfl⟩)
                              | (go_at_call_of 93 B1; (with_reducible refine (before_ok _ B1 F x.key fr b1 fc ?hx ?hy).mono ?_); (case hx => exact Hs2.out.bbelow Hbx.out); (case hy => exact (Hf.out.bbelow Hbwr.out).bbelow Hbx.out); rintro e w5 ⟨rfl, rfl⟩)
                              | (go_at_call_of 93 M; (with_reducible refine (before_ok _ M B1 to x.key mc b1 ?hx ?hy).mono ?_); (case hx => exact (Hm.out.bbelow Hbwr.out).bbelow Hbx.out); (case hy => exact Hs2.out.bbelow Hbx.out); rintro e w5 ⟨rfl, rfl⟩))
                go_roundw
                case rel => exact ⟨k + 1, s, O, co, by omega, by go_num, Hst.out, Hsf.out, rfl, hco, HO.out.below pairR_stays Hbx.out, Hbel.out.next Hbx.out hbz⟩
                case measure => simp [intOf]; omega
            · obtain rfl : k = t.writes.length := by omega
              have hfi := Hcur.out
              rw [List.take_length] at hfi
              have Hv := Lib.hid (show scanS l t nm fr to = (s, 0) by unfold scanS; rw [if_neg (by rw [Hg1.out]; decide), if_neg (by rw [Hrz.out]; decide)]; exact hfi)
              clear hfi
              go_wp2
              go_ret2
              rw [Hv.out]
              exact ⟨O, co, rfl, hco, HO.out, Hbwr.out⟩
        · have b4 : (keyFault to != 0) = true := by simpa using g4
          have Hv := Lib.hid (show scanS l t nm fr to = ([], keyFault to) by
            have hk : (forestRangeS l nm fr to).2 = keyFault to := by (rw [Hcd.out]; unfold nkkFault; rw [if_neg (by simpa using g2), if_neg (by simpa using g3)])
            unfold scanS; rw [if_neg (by simpa using g1), hk, if_pos g4])
          clear g1 g2 g3 g4
          go_enter Try.func78, Try.ntmps78
          go_wp2_with (first
            | (go_at_call 144; refine (forestAndTxn_ok _ L l c A B t n m (Hl.out.below tenR_stays Hbl.out) (Ha.out.below wrR_stays Hbl.out) (Hb.out.below wrR_stays Hbl.out)).mono ?_; rintro e w1 ⟨rfl, hb1⟩; have hs1 : w.heap.size < w1.heap.size := (by have := hb1.size; simp at this; omega); have Hx1 := Lib.hid ((hb1.block w.heap.size (by simp)).trans Hx.out); have Hw1 := Lib.hid (Hbl.out.next hb1 (by simp)); obtain ⟨x0, x1, x2, _⟩ := box3 Hx1.out; clear hb1)
            | (go_at_call 105; refine (nameFault_ok _ N nm nc).mono ?_; rintro e w5 ⟨rfl, rfl⟩)
            | (go_at_call_of 92 F; (with_reducible refine (keyFault_ok _ F fr fc).mono ?_); rintro e w5 ⟨rfl, rfl⟩)
            | (go_at_call_of 92 M; (with_reducible refine (keyFault_ok _ M to mc).mono ?_); rintro e w5 ⟨rfl, rfl⟩))
          go_ret2
          rw [Hv.out]
          exact ⟨none, 0, rfl, Nat.le_refl _, SL.nil, Hw1.out⟩
      · have b3 : (keyFault fr == 0) = false := by simpa using g3
        have b3' : (keyFault fr != 0) = true := by simpa using g3
        have Hv := Lib.hid (show scanS l t nm fr to = ([], keyFault fr) by
          have hk : (forestRangeS l nm fr to).2 = keyFault fr := by (rw [Hcd.out]; unfold nkkFault; rw [if_neg (by simpa using g2), if_pos g3])
          unfold scanS; rw [if_neg (by simpa using g1), hk, if_pos g3])
        clear g1 g2 g3
        go_enter Try.func78, Try.ntmps78
        go_wp2_with (first
          | (go_at_call 144; refine (forestAndTxn_ok _ L l c A B t n m (Hl.out.below tenR_stays Hbl.out) (Ha.out.below wrR_stays Hbl.out) (Hb.out.below wrR_stays Hbl.out)).mono ?_; rintro e w1 ⟨rfl, hb1⟩; have hs1 : w.heap.size < w1.heap.size := (by have := hb1.size; simp at this; omega); have Hx1 := Lib.hid ((hb1.block w.heap.size (by simp)).trans Hx.out); have Hw1 := Lib.hid (Hbl.out.next hb1 (by simp)); obtain ⟨x0, x1, x2, _⟩ := box3 Hx1.out; clear hb1)
          | (go_at_call 105; refine (nameFault_ok _ N nm nc).mono ?_; rintro e w5 ⟨rfl, rfl⟩)
          | (go_at_call_of 92 F; (with_reducible refine (keyFault_ok _ F fr fc).mono ?_); rintro e w5 ⟨rfl, rfl⟩))
        go_ret2
        rw [Hv.out]
        exact ⟨none, 0, rfl, Nat.le_refl _, SL.nil, Hw1.out⟩
    · have b2 : (nameFault nm == 0) = false := by simpa using g2
      have b2' : (nameFault nm != 0) = true := by simpa using g2
      have Hv := Lib.hid (show scanS l t nm fr to = ([], nameFault nm) by
        have hk : (forestRangeS l nm fr to).2 = nameFault nm := by (rw [Hcd.out]; unfold nkkFault; rw [if_pos g2])
        unfold scanS; rw [if_neg (by simpa using g1), hk, if_pos g2])
      clear g1 g2
      go_enter Try.func78, Try.ntmps78
      go_wp2_with (first
        | (go_at_call 144; refine (forestAndTxn_ok _ L l c A B t n m (Hl.out.below tenR_stays Hbl.out) (Ha.out.below wrR_stays Hbl.out) (Hb.out.below wrR_stays Hbl.out)).mono ?_; rintro e w1 ⟨rfl, hb1⟩; have hs1 : w.heap.size < w1.heap.size := (by have := hb1.size; simp at this; omega); have Hx1 := Lib.hid ((hb1.block w.heap.size (by simp)).trans Hx.out); have Hw1 := Lib.hid (Hbl.out.next hb1 (by simp)); obtain ⟨x0, x1, x2, _⟩ := box3 Hx1.out; clear hb1)
        | (go_at_call 105; refine (nameFault_ok _ N nm nc).mono ?_; rintro e w5 ⟨rfl, rfl⟩))
      go_ret2
      rw [Hv.out]
      exact ⟨none, 0, rfl, Nat.le_refl _, SL.nil, Hw1.out⟩
  · have b1 : (bothS l t == 0) = false := by simpa using g1
    have b1' : (bothS l t != 0) = true := by simpa using g1
    have Hv := Lib.hid (show scanS l t nm fr to = ([], bothS l t) by
      unfold scanS; rw [if_pos g1])
    clear g1
    go_enter Try.func78, Try.ntmps78
    go_wp2_with (first
      | (go_at_call 144; refine (forestAndTxn_ok _ L l c A B t n m (Hl.out.below tenR_stays Hbl.out) (Ha.out.below wrR_stays Hbl.out) (Hb.out.below wrR_stays Hbl.out)).mono ?_; rintro e w1 ⟨rfl, hb1⟩; have hs1 : w.heap.size < w1.heap.size := (by have := hb1.size; simp at this; omega); have Hx1 := Lib.hid ((hb1.block w.heap.size (by simp)).trans Hx.out); have Hw1 := Lib.hid (Hbl.out.next hb1 (by simp)); obtain ⟨x0, x1, x2, _⟩ := box3 Hx1.out; clear hb1))
    go_ret2
    rw [Hv.out]
    exact ⟨none, 0, rfl, Nat.le_refl _, SL.nil, Hw1.out⟩
set_option maxRecDepth 100000 in
set_option maxHeartbeats 8000000 in
theorem scan_ok (w : World) (L : Option Addr) (l : List Tn) (c : Nat) (A B : Option Addr) (t : Tx) (n m : Nat) (N : Option Addr) (nm : List UInt8) (nc : Nat) (F : Option Addr) (fr : List UInt8) (fc : Nat) (M : Option Addr) (to : List UInt8) (mc : Nat) (hl : Ts All w L l) (ha : Ws All w A t.reads) (hb : Ws All w B t.writes) (hn : Bs All w N nm) (hf : Bs All w F fr) (hm : Bs All w M to) (hcn : t.reads.length ≤ n) (hcm : t.writes.length ≤ m) :
    Calls Try.prog 77 #[.slice L l.length c, .agg #[.int .i64 t.start, .slice A t.reads.length n, .slice B t.writes.length m], .slice N nm.length nc, .slice F fr.length fc, .slice M to.length mc] w (RetPE w (scanS l t nm fr to)) := by
  have Hl := Lib.hid hl
  have Ha := Lib.hid ha
  have Hb := Lib.hid hb
  have Hn := Lib.hid hn
  have Hf := Lib.hid hf
  have Hm := Lib.hid hm
  clear hl ha hb hn hf hm
  have Hbl := Lib.hid (show Below w.heap.size w (w.alloc (.cells #[.int .i64 t.start, .slice A t.reads.length n, .slice B t.writes.length m] 79)) from (Below.refl _ _).alloc (Nat.le_refl _) _)
  have Hx := Lib.hid (box_new w #[.int .i64 t.start, .slice A t.reads.length n, .slice B t.writes.length m] 79)
  by_cases g1 : bothS l t = 0
  · have b1' : (bothS l t != 0) = false := by simp [g1]
    by_cases g2 : (forestRangeS l nm fr to).2 = 0
    · have b2' : ((0 : Int) != 0) = false := by decide
      have Hg1 := Lib.hid g1
      have Hrz := Lib.hid g2
      have Hwf := Lib.hid (fun (i : Nat) (hi : i < t.writes.length) => txn_writes_fine (both_fine g1).2 hi)
      have hw10 := (txn_small' (both_fine g1).2).2
      clear g1 g2
      go_enter Try.func77, Try.ntmps77
      go_wp2_with (first
        | (go_at_call 143; refine (both_ok _ L l c A B t n m (Hl.out.below tenR_stays Hbl.out) (Ha.out.below wrR_stays Hbl.out) (Hb.out.below wrR_stays Hbl.out) hcn hcm).mono ?_; rintro e w1 ⟨rfl, hb1⟩; have hs1 : w.heap.size < w1.heap.size := (by have := hb1.size; simp at this; omega); have Hx1 := Lib.hid ((hb1.block w.heap.size (by simp)).trans Hx.out); have Hw1 := Lib.hid (Hbl.out.next hb1 (by simp)); obtain ⟨x0, x1, x2, _⟩ := box3 Hx1.out; clear hb1)
        | (go_at_call 41; refine (forestRange_ok _ L l c N nm nc F fr fc M to mc (Hl.out.below tenR_stays Hw1.out) (Hn.out.bbelow Hw1.out) (Hf.out.bbelow Hw1.out) (Hm.out.bbelow Hw1.out)).mono ?_; rintro e w2 ⟨R, rc, rfl, hrc, gs2, hb2⟩; rw [Hrz.out]; have hs2 := hb2.size; have Hx2 := Lib.hid ((hb2.block w.heap.size (by omega)).trans Hx1.out); have Hw2 := Lib.hid (Hw1.out.next hb2 (by omega)); have Gs2 := Lib.hid gs2; clear gs2 hb2 x0 x1 x2; obtain ⟨x0, x1, x2, _⟩ := box3 Hx2.out))
      clear b1' b2' x0 x1 x2
      go_loopw [13, 38] (fun v i wr => ∃ (k : Nat) (s : List Pr) (O : Option Addr) (co : Nat), k ≤ t.writes.length ∧ i = .int .i64 k ∧ scanTo nm fr to (forestRangeS l nm fr to) (t.writes.take k) = (s, 0) ∧ pairsFaultS s = 0 ∧ v = .slice O s.length co ∧ s.length ≤ co ∧ Ps (From w.heap.size) wr O s ∧ Below w2.heap.size w2 wr) (fun _ i _ => t.writes.length - (intOf i).toNat)
      case atStart => exact ⟨0, (forestRangeS l nm fr to).1, R, rc, by omega, rfl, Prod.ext rfl Hrz.out, range_fine Hrz.out, rfl, hrc, Gs2.out.lo pairR_stays (by omega), Below.refl _ _⟩
      case round =>
        obtain ⟨k, s, O, co, hk, rfl, hcur, hsf, rfl, hco, ho, hbel⟩ := hrel
        have Hcur := Lib.hid hcur
        have Hsf := Lib.hid hsf
        have HO := Lib.hid ho
        have Hbel := Lib.hid hbel
        have hbz := hbel.size
        have Hbwr := Lib.hid (Hw2.out.next hbel (by omega))
        obtain ⟨x0, x1, x2, _⟩ := box3 ((hbel.block _ (by omega)).trans Hx2.out)
        clear hcur hsf ho hbel
        by_cases hlt : k < t.writes.length
        · obtain ⟨g, off, A1, a1, B1, b1, C1, c1, hX, _, hal, hc1, hc2, hc3, hc4, hs1, hs2, hs3, _, _, _⟩ := wrs_at (Hb.out.below wrR_stays Hbwr.out) hlt
          subst hX
          have Hnext := Lib.hid (scanTo_next (n := nm) (f := fr) (m := to) (s := forestRangeS l nm fr to) hlt)
          have Herr := Lib.hid (fun e h he => scan_err (n := nm) (f := fr) (m := to) (s := forestRangeS l nm fr to) (e := e) hlt h he)
          have Hfx := Lib.hid (Hwf.out k hlt)
          generalize t.writes[k] = x at *
          have Hs1 := Lib.hid hs1.bz
          have Hs2 := Lib.hid hs2.bz
          have Hs3 := Lib.hid hs3.bz
          have Hbx := Lib.hid (show Below wr.heap.size wr (wr.alloc (.cells #[.slice A1 x.name.length a1, .slice B1 x.key.length b1, .bool x.flag, .slice C1 x.value.length c1] 94)) from (Below.refl _ _).alloc (Nat.le_refl _) _)
          clear hs1 hs2 hs3
          rcases Bool.eq_false_or_eq_true (x.name == nm) with d1 | d1
          · rcases Bool.eq_false_or_eq_true (lt x.key fr) with d2 | d2
            · have Hst := Lib.hid (show scanTo nm fr to (forestRangeS l nm fr to) (t.writes.take (k + 1)) = (s, 0) by rw [Hnext.out, Hcur.out]; exact step_skip (by simp [scanSkip, d1, d2]))
              have e2 : decide (cmp3 x.key fr < 0) = true := by have := cmp3_neg d2; rw [decide_eq_true_eq]; omega
              go_wp2_with (first
                      | (go_at_call_of 145 A1; (with_reducible refine (bytesEqual_ok _ A1 N x.name nm a1 nc ?hx ?hy).mono ?_); (case hx => exact Hs1.out.bbelow Hbx.out); (case hy => exact (Hn.out.bbelow Hbwr.out).bbelow Hbx.out); rintro e w5 ⟨rfl, rfl⟩)
                      | (go_at_call_of 103 B1; (with_reducible refine (bytesCompare_ok _ B1 F x.key fr b1 fc ?hx ?hy).mono ?_); (case hx => exact Hs2.out.bbelow Hbx.out); (case hy => exact (Hf.out.bbelow Hbwr.out).bbelow Hbx.out); rintro e w5 ⟨rfl, rfl⟩)
                      | (go_at_call_of 103 B1; (with_reducible refine (bytesCompare_ok _ B1 M x.key to b1 mc ?hx ?hy).mono ?_); (case hx => exact Hs2.out.bbelow Hbx.out); (case hy => exact (Hm.out.bbelow Hbwr.out).bbelow Hbx.out); rintro e w5 ⟨rfl, rfl⟩))
              go_roundw
              case rel => exact ⟨k + 1, s, O, co, by omega, by go_num, Hst.out, Hsf.out, rfl, hco, HO.out.below pairR_stays Hbx.out, Hbel.out.next Hbx.out hbz⟩
              case measure => simp [intOf]; omega
            · have e2 : decide (cmp3 x.key fr < 0) = false := by have := cmp3_nonneg d2; rw [decide_eq_false_iff_not]; omega
              rcases Bool.eq_false_or_eq_true (lt to x.key) with d3 | d3
              · have Hst := Lib.hid (show scanTo nm fr to (forestRangeS l nm fr to) (t.writes.take (k + 1)) = (s, 0) by rw [Hnext.out, Hcur.out]; exact step_skip (by simp [scanSkip, d1, d2, d3]))
                have e3 : decide (0 < cmp3 x.key to) = true := by have := cmp3_pos d3; rw [decide_eq_true_eq]; omega
                go_wp2_with (first
                      | (go_at_call_of 145 A1; (with_reducible refine (bytesEqual_ok _ A1 N x.name nm a1 nc ?hx ?hy).mono ?_); (case hx => exact Hs1.out.bbelow Hbx.out); (case hy => exact (Hn.out.bbelow Hbwr.out).bbelow Hbx.out); rintro e w5 ⟨rfl, rfl⟩)
                      | (go_at_call_of 103 B1; (with_reducible refine (bytesCompare_ok _ B1 F x.key fr b1 fc ?hx ?hy).mono ?_); (case hx => exact Hs2.out.bbelow Hbx.out); (case hy => exact (Hf.out.bbelow Hbwr.out).bbelow Hbx.out); rintro e w5 ⟨rfl, rfl⟩)
                      | (go_at_call_of 103 B1; (with_reducible refine (bytesCompare_ok _ B1 M x.key to b1 mc ?hx ?hy).mono ?_); (case hx => exact Hs2.out.bbelow Hbx.out); (case hy => exact (Hm.out.bbelow Hbwr.out).bbelow Hbx.out); rintro e w5 ⟨rfl, rfl⟩))
                go_roundw
                case rel => exact ⟨k + 1, s, O, co, by omega, by go_num, Hst.out, Hsf.out, rfl, hco, HO.out.below pairR_stays Hbx.out, Hbel.out.next Hbx.out hbz⟩
                case measure => simp [intOf]; omega
              · have e3 : decide (0 < cmp3 x.key to) = false := by have := cmp3_nonpos d3; rw [decide_eq_false_iff_not]; omega
                have Hsk := Lib.hid (show scanSkip nm fr to x = false by simp [scanSkip, d1, d2, d3])
                rcases Bool.eq_false_or_eq_true x.flag with hfl | hfl
                · have Hdz := Lib.hid (show (delS s x.key).2 = 0 by rw [delS_err Hsf.out]; exact wr_key_fine Hfx.out hfl)
                  have Hst := Lib.hid (show scanTo nm fr to (forestRangeS l nm fr to) (t.writes.take (k + 1)) = ((delS s x.key).1, 0) by rw [Hnext.out, Hcur.out]; exact step_del Hsk.out hfl Hdz.out)
                  have d5 : ((0 : Int) != 0) = false := by decide
                  rw [hfl] at hc3 Hbx
                  go_wp2_with (first
                      | (go_at_call_of 145 A1; (with_reducible refine (bytesEqual_ok _ A1 N x.name nm a1 nc ?hx ?hy).mono ?_); (case hx => exact Hs1.out.bbelow Hbx.out); (case hy => exact (Hn.out.bbelow Hbwr.out).bbelow Hbx.out); rintro e w5 ⟨rfl, rfl⟩)
                      | (go_at_call_of 103 B1; (with_reducible refine (bytesCompare_ok _ B1 F x.key fr b1 fc ?hx ?hy).mono ?_); (case hx => exact Hs2.out.bbelow Hbx.out); (case hy => exact (Hf.out.bbelow Hbwr.out).bbelow Hbx.out); rintro e w5 ⟨rfl, rfl⟩)
                      | (go_at_call_of 103 B1; (with_reducible refine (bytesCompare_ok _ B1 M x.key to b1 mc ?hx ?hy).mono ?_); (case hx => exact Hs2.out.bbelow Hbx.out); (case hy => exact (Hm.out.bbelow Hbwr.out).bbelow Hbx.out); rintro e w5 ⟨rfl, rfl⟩)
                      | (go_at_call 31; refine (treeDelete_ok _ O s co B1 x.key b1 ((HO.out.z pairR_stays).below pairR_stays Hbx.out) (Hs2.out.bbelow Hbx.out)).mono ?_; rintro e w6 ⟨O6, c6, rfl, hc6, gs6, hb6⟩; rw [Hdz.out]))
                  go_roundw
                  case rel => exact ⟨k + 1, _, O6, c6, by omega, by go_num, Hst.out, delS_fine Hdz.out, rfl, hc6, gs6.lo pairR_stays (by simp; omega), (Hbel.out.next Hbx.out hbz).next hb6 (by simp; omega)⟩
                  case measure => simp [intOf]; omega
                · rw [hfl] at hc3 Hbx
                  by_cases hz : (putS s (x.key, x.value)).2 = 0
                  · have d5 : ((putS s (x.key, x.value)).2 != 0) = false := by simp [hz]
                    have Hst := Lib.hid (show scanTo nm fr to (forestRangeS l nm fr to) (t.writes.take (k + 1)) = ((putS s (x.key, x.value)).1, 0) by rw [Hnext.out, Hcur.out]; exact step_put Hsk.out hfl hz)
                    have Hpf := Lib.hid (putS_fine hz).1
                    clear hz
                    go_wp2_with (first
                      | (go_at_call_of 145 A1; (with_reducible refine (bytesEqual_ok _ A1 N x.name nm a1 nc ?hx ?hy).mono ?_); (case hx => exact Hs1.out.bbelow Hbx.out); (case hy => exact (Hn.out.bbelow Hbwr.out).bbelow Hbx.out); rintro e w5 ⟨rfl, rfl⟩)
                      | (go_at_call_of 103 B1; (with_reducible refine (bytesCompare_ok _ B1 F x.key fr b1 fc ?hx ?hy).mono ?_); (case hx => exact Hs2.out.bbelow Hbx.out); (case hy => exact (Hf.out.bbelow Hbwr.out).bbelow Hbx.out); rintro e w5 ⟨rfl, rfl⟩)
                      | (go_at_call_of 103 B1; (with_reducible refine (bytesCompare_ok _ B1 M x.key to b1 mc ?hx ?hy).mono ?_); (case hx => exact Hs2.out.bbelow Hbx.out); (case hy => exact (Hm.out.bbelow Hbwr.out).bbelow Hbx.out); rintro e w5 ⟨rfl, rfl⟩)
                      | (go_at_call 33; refine (treePut_ok _ O s co B1 C1 (x.key, x.value) b1 c1 ((HO.out.z pairR_stays).below pairR_stays Hbx.out) (Hs2.out.bbelow Hbx.out) (Hs3.out.bbelow Hbx.out)).mono ?_; rintro e w6 ⟨O6, c6, rfl, hc6, gs6, hb6⟩))
                    go_roundw
                    case rel => exact ⟨k + 1, _, O6, c6, by omega, by go_num, Hst.out, Hpf.out, rfl, hc6, gs6.lo pairR_stays (by simp; omega), (Hbel.out.next Hbx.out hbz).next hb6 (by simp; omega)⟩
                    case measure => simp [intOf]; omega
                  · have d5 : ((putS s (x.key, x.value)).2 != 0) = true := by simpa using hz
                    have Hv := Lib.hid (show scanS l t nm fr to = ([], (putS s (x.key, x.value)).2) by unfold scanS; rw [if_neg (by rw [Hg1.out]; decide), if_neg (by rw [Hrz.out]; decide)]; exact Herr.out _ (by rw [Hcur.out]; exact step_bad Hsk.out hfl hz) hz)
                    clear hz
                    go_wp2_with (first
                      | (go_at_call_of 145 A1; (with_reducible refine (bytesEqual_ok _ A1 N x.name nm a1 nc ?hx ?hy).mono ?_); (case hx => exact Hs1.out.bbelow Hbx.out); (case hy => exact (Hn.out.bbelow Hbwr.out).bbelow Hbx.out); rintro e w5 ⟨rfl, rfl⟩)
                      | (go_at_call_of 103 B1; (with_reducible refine (bytesCompare_ok _ B1 F x.key fr b1 fc ?hx ?hy).mono ?_); (case hx => exact Hs2.out.bbelow Hbx.out); (case hy => exact (Hf.out.bbelow Hbwr.out).bbelow Hbx.out); rintro e w5 ⟨rfl, rfl⟩)
                      | (go_at_call_of 103 B1; (with_reducible refine (bytesCompare_ok _ B1 M x.key to b1 mc ?hx ?hy).mono ?_); (case hx => exact Hs2.out.bbelow Hbx.out); (case hy => exact (Hm.out.bbelow Hbwr.out).bbelow Hbx.out); rintro e w5 ⟨rfl, rfl⟩)
                      | (go_at_call 33; refine (treePut_ok _ O s co B1 C1 (x.key, x.value) b1 c1 ((HO.out.z pairR_stays).below pairR_stays Hbx.out) (Hs2.out.bbelow Hbx.out) (Hs3.out.bbelow Hbx.out)).mono ?_; rintro e w6 ⟨O6, c6, rfl, hc6, gs6, hb6⟩))
                    go_ret2
                    rw [Hv.out]
                    exact ⟨none, 0, rfl, Nat.le_refl _, SL.nil, (Hbwr.out.next Hbx.out (by omega)).next hb6 (by simp; omega)⟩
          · have Hst := Lib.hid (show scanTo nm fr to (forestRangeS l nm fr to) (t.writes.take (k + 1)) = (s, 0) by rw [Hnext.out, Hcur.out]; exact step_skip (by simp [scanSkip, d1]))
            go_wp2_with (first
                      | (go_at_call_of 145 A1; (with_reducible refine (bytesEqual_ok _ A1 N x.name nm a1 nc ?hx ?hy).mono ?_); (case hx => exact Hs1.out.bbelow Hbx.out); (case hy => exact (Hn.out.bbelow Hbwr.out).bbelow Hbx.out); rintro e w5 ⟨rfl, rfl⟩)
                      | (go_at_call_of 103 B1; (with_reducible refine (bytesCompare_ok _ B1 F x.key fr b1 fc ?hx ?hy).mono ?_); (case hx => exact Hs2.out.bbelow Hbx.out); (case hy => exact (Hf.out.bbelow Hbwr.out).bbelow Hbx.out); rintro e w5 ⟨rfl, rfl⟩)
                      | (go_at_call_of 103 B1; (with_reducible refine (bytesCompare_ok _ B1 M x.key to b1 mc ?hx ?hy).mono ?_); (case hx => exact Hs2.out.bbelow Hbx.out); (case hy => exact (Hm.out.bbelow Hbwr.out).bbelow Hbx.out); rintro e w5 ⟨rfl, rfl⟩))
            go_roundw
            case rel => exact ⟨k + 1, s, O, co, by omega, by go_num, Hst.out, Hsf.out, rfl, hco, HO.out.below pairR_stays Hbx.out, Hbel.out.next Hbx.out hbz⟩
            case measure => simp [intOf]; omega
        · obtain rfl : k = t.writes.length := by omega
          have hfi := Hcur.out
          rw [List.take_length] at hfi
          have Hv := Lib.hid (show scanS l t nm fr to = (s, 0) by unfold scanS; rw [if_neg (by rw [Hg1.out]; decide), if_neg (by rw [Hrz.out]; decide)]; exact hfi)
          clear hfi
          go_wp2
          go_ret2
          rw [Hv.out]
          exact ⟨O, co, rfl, hco, HO.out, Hbwr.out⟩
    · have b2' : ((forestRangeS l nm fr to).2 != 0) = true := by simpa using g2
      have Hv := Lib.hid (show scanS l t nm fr to = ([], (forestRangeS l nm fr to).2) by
        unfold scanS; rw [if_neg (by simpa using g1), if_pos g2])
      clear g1 g2
      go_enter Try.func77, Try.ntmps77
      go_wp2_with (first
        | (go_at_call 143; refine (both_ok _ L l c A B t n m (Hl.out.below tenR_stays Hbl.out) (Ha.out.below wrR_stays Hbl.out) (Hb.out.below wrR_stays Hbl.out) hcn hcm).mono ?_; rintro e w1 ⟨rfl, hb1⟩; have hs1 : w.heap.size < w1.heap.size := (by have := hb1.size; simp at this; omega); have Hx1 := Lib.hid ((hb1.block w.heap.size (by simp)).trans Hx.out); have Hw1 := Lib.hid (Hbl.out.next hb1 (by simp)); obtain ⟨x0, x1, x2, _⟩ := box3 Hx1.out; clear hb1)
        | (go_at_call 41; refine (forestRange_ok _ L l c N nm nc F fr fc M to mc (Hl.out.below tenR_stays Hw1.out) (Hn.out.bbelow Hw1.out) (Hf.out.bbelow Hw1.out) (Hm.out.bbelow Hw1.out)).mono ?_; rintro e w2 ⟨R, rc, rfl, hrc, gs2, hb2⟩; have hs2 := hb2.size; have Hx2 := Lib.hid ((hb2.block w.heap.size (by omega)).trans Hx1.out); have Hw2 := Lib.hid (Hw1.out.next hb2 (by omega)); have Gs2 := Lib.hid gs2; clear gs2 hb2 x0 x1 x2; obtain ⟨x0, x1, x2, _⟩ := box3 Hx2.out))
      go_ret2
      rw [Hv.out]
      exact ⟨none, 0, rfl, Nat.le_refl _, SL.nil, Hw2.out⟩
  · have b1' : (bothS l t != 0) = true := by simpa using g1
    have Hv := Lib.hid (show scanS l t nm fr to = ([], bothS l t) by
      unfold scanS; rw [if_pos g1])
    clear g1
    go_enter Try.func77, Try.ntmps77
    go_wp2_with (first
      | (go_at_call 143; refine (both_ok _ L l c A B t n m (Hl.out.below tenR_stays Hbl.out) (Ha.out.below wrR_stays Hbl.out) (Hb.out.below wrR_stays Hbl.out) hcn hcm).mono ?_; rintro e w1 ⟨rfl, hb1⟩; have hs1 : w.heap.size < w1.heap.size := (by have := hb1.size; simp at this; omega); have Hx1 := Lib.hid ((hb1.block w.heap.size (by simp)).trans Hx.out); have Hw1 := Lib.hid (Hbl.out.next hb1 (by simp)); obtain ⟨x0, x1, x2, _⟩ := box3 Hx1.out; clear hb1))
    go_ret2
    rw [Hv.out]
    exact ⟨none, 0, rfl, Nat.le_refl _, SL.nil, Hw1.out⟩
end Go.Proofs.Ythhcdibimnifaaa
