/- ChgA: Walks: the references' placedBefore, keyIn, changeless. The conditions of each are in its words. -/
import Derived.BigQuiet
import Derived.Deep.CutRange
import Derived.Test.YthohkgggodhbcaaGreatKChgL
import Derived.Test.YthohkgggodhbcaaGreatKForestW
import Derived.Test.YthohkgggodhbcaaGreatKTrees
import Derived.Test.YthohkgggodhbcaaGreatKChgC
namespace Go.Proofs.YthohkgggodhbcaaGreat
open Go.RowKit
set_option linter.unusedVariables false
set_option linter.unusedSimpArgs false

theorem findVal_end {l : List Pr} {k : List UInt8} : findVal (l.drop l.length) k = none := by rw [List.drop_length]; rfl
set_option maxRecDepth 100000 in
set_option maxHeartbeats 2000000 in
theorem keyIn_ok (w : World) (A : Option Addr) (l : List Tn) (c : Nat) (N0 : Option Addr) (n : List UInt8) (cn : Nat) (K : Option Addr) (k : List UInt8) (ck : Nat) (ha : Ts All w A l) (hn : Bs All w N0 n) (hk : Bs All w K k) (hl : l.length ≤ 8) :
    Calls Tryz.prog 18 #[.slice A l.length c, .slice N0 n.length cn, .slice K k.length ck] w (RetV w (.bool (findVal (pairsOfS l n) k).isSome)) := by
  have Ha := Lib.hid ha
  have Hn := Lib.hid hn
  have Hk := Lib.hid hk
  clear ha hn hk
  go_enter Tryz.func18, Tryz.ntmps18
  go_wp2_with (go_at_call 34; (with_reducible refine (pairsOf_ok _ A l c N0 n cn Ha.out Hn.out (by omega)).mono ?_); rintro e1 w1 ⟨B, cb, rfl, hps, hpl, hpc, hb1⟩; have Hps := Lib.hid hps; have Hb1 := Lib.hid hb1; clear hps hb1)
  obtain ⟨ps, hpse⟩ : ∃ ps, ps = pairsOfS l n := ⟨_, rfl⟩
  rw [← hpse] at Hps hpl hpc ⊢
  have Hpse := Lib.hid hpse
  clear hpse
  go_loopw [8] (fun i wr => ∃ m : Nat, m ≤ ps.length ∧ i = .int .i64 m ∧ findVal (ps.drop m) k = findVal ps k ∧ Below w.heap.size w wr ∧ Ps All wr B ps) (fun i _ => ps.length - (intOf i).toNat)
  case atStart => exact ⟨0, by omega, rfl, rfl, Hb1.out, Hps.out⟩
  case round =>
    obtain ⟨m, hm, rfl, hfv, hbel, hps⟩ := hrel
    have Hfv := Lib.hid hfv
    have Hbel := Lib.hid hbel
    have Hp := Lib.hid hps
    clear hfv hbel hps
    by_cases hlt : m < ps.length
    · obtain ⟨ab, ao, K0, c0, V0, d0, rfl, _, hal, hc1, hc2, hs1, hs2, _, hvl⟩ := pairs_at Hp.out hlt
      have Hkr := Lib.hid (Hk.out.bbelow Hbel.out)
      have Hs1 := Lib.hid hs1
      have i0 : (0 : Int) ≤ (m : Int) := by omega
      have i1 : (m : Int) < (ps.length : Int) := by omega
      clear hs1 hs2
      rcases Bool.eq_false_or_eq_true (ps[m].1 == k) with he | he
      · have Hgs := Lib.hid (Hfv.out ▸ findVal_here hlt he)
        generalize ps[m] = x at *
        go_wp2_with (go_at_call 35; (with_reducible refine (refSameBytes_ok _ K0 K x.1 k c0 ck Hs1.out Hkr.out).mono ?_); rintro e w2 ⟨rfl, rfl⟩)
        go_ret
        (try rw [← Hpse.out])
        rw [Hgs.out]
        exact ⟨rfl, Hbel.out⟩
      · have Hst := Lib.hid (findVal_next hlt he)
        generalize ps[m] = x at *
        go_wp2_with (go_at_call 35; (with_reducible refine (refSameBytes_ok _ K0 K x.1 k c0 ck Hs1.out Hkr.out).mono ?_); rintro e w2 ⟨rfl, rfl⟩)
        go_roundw
        case rel => exact ⟨m + 1, by omega, by go_num, by rw [← Hst.out]; exact Hfv.out, Hbel.out, Hp.out⟩
        case measure => simp [intOf]; omega
    · obtain rfl : m = ps.length := by omega
      have Hgs := Lib.hid (Hfv.out.symm.trans findVal_end)
      go_wp2
      go_ret
      (try rw [← Hpse.out])
      rw [Hgs.out]
      exact ⟨rfl, Hbel.out⟩
set_option maxRecDepth 100000 in
set_option maxHeartbeats 2000000 in
theorem changeless_ok (w : World) (A : Option Addr) (l : List Tn) (c : Nat) (N0 : Option Addr) (n : List UInt8) (cn : Nat) (K V : Option Addr) (p : Pr) (ck cv : Nat) (ha : Ts All w A l) (hn : Bs All w N0 n) (hk : Bs All w K p.1) (hv : Bs All w V p.2) (hl : l.length ≤ 8) :
    Calls Tryz.prog 15 #[.slice A l.length c, .slice N0 n.length cn, .agg #[.slice K p.1.length ck, .slice V p.2.length cv]] w (RetV w (.bool (findVal (pairsOfS l n) p.1 == some p.2))) := by
  have hwg := (Below.refl w.heap.size w).alloc (Nat.le_refl _) (.cells #[.slice K p.1.length ck, .slice V p.2.length cv] 50)
  have hbg := box_new w #[.slice K p.1.length ck, .slice V p.2.length cv] 50
  have Ha := Lib.hid (ha.below tenR_stays hwg)
  have Hn := Lib.hid (hn.bbelow hwg)
  have Hk := Lib.hid (hk.bbelow hwg)
  have Hv := Lib.hid (hv.bbelow hwg)
  have Hwg := Lib.hid hwg
  clear ha hn hk hv
  go_enter Tryz.func15, Tryz.ntmps15
  go_upto_region 1 with fail
  obtain ⟨wg, hwge⟩ : ∃ wg, wg = w.alloc (.cells #[.slice K p.1.length ck, .slice V p.2.length cv] 50) := ⟨_, rfl⟩
  rw [← hwge] at hbg Ha Hn Hk Hv Hwg ⊢
  obtain ⟨gb, hgbe⟩ : ∃ gb, gb = w.heap.size := ⟨_, rfl⟩
  rw [← hgbe] at hbg ⊢
  have hgl := (Array.getElem?_eq_some_iff.1 hbg).1
  have Hbg := Lib.hid hbg
  clear hwge hgbe hwg hbg
  go_upto_region 2 with (go_at_call 34; (with_reducible refine (pairsOf_ok _ A l c N0 n cn Ha.out Hn.out (by omega)).mono ?_); rintro e1 w1 ⟨B, cb, rfl, hps, hpl, hpc, hb1⟩; have Hps := Lib.hid hps; have Hb1 := Lib.hid hb1; clear hps hb1)
  obtain ⟨ps, hpse⟩ : ∃ ps, ps = pairsOfS l n := ⟨_, rfl⟩
  rw [← hpse] at Hps hpl hpc ⊢
  have Hpse := Lib.hid hpse
  clear hpse
  go_wp2
  go_loopw [8] (fun i wr => ∃ m : Nat, m ≤ ps.length ∧ i = .int .i64 m ∧ findVal (ps.drop m) p.1 = findVal ps p.1 ∧ Below wg.heap.size wg wr ∧ Ps All wr B ps) (fun i _ => ps.length - (intOf i).toNat)
  case atStart => exact ⟨0, by omega, rfl, rfl, Hb1.out, Hps.out⟩
  case round =>
    obtain ⟨m, hm, rfl, hfv, hbel, hps⟩ := hrel
    have Hfv := Lib.hid hfv
    have Hbel := Lib.hid hbel
    have Hp := Lib.hid hps
    clear hfv hbel hps
    have Hbw := Lib.hid (Hwg.out.next Hbel.out Hwg.out.size)
    by_cases hlt : m < ps.length
    · obtain ⟨ab, ao, K0, c0, V0, d0, rfl, _, hal, hc1, hc2, hs1, hs2, _, hvl⟩ := pairs_at Hp.out hlt
      have Hkr := Lib.hid (Hk.out.bbelow Hbel.out)
      have Hvr := Lib.hid (Hv.out.bbelow Hbel.out)
      have Hs1 := Lib.hid hs1
      have Hs2 := Lib.hid hs2
      have i0 : (0 : Int) ≤ (m : Int) := by omega
      have i1 : (m : Int) < (ps.length : Int) := by omega
      obtain ⟨g0, g1, _, _⟩ := box2 ((Hbel.out.block gb hgl).trans Hbg.out)
      clear hs1 hs2
      rcases Bool.eq_false_or_eq_true (ps[m].1 == p.1) with he | he
      · have Hgs := Lib.hid (Hfv.out ▸ findVal_here hlt he)
        generalize ps[m] = x at *
        have hbz := Hbel.out
        go_wp2_with fail
        go_quiet ((go_at_call 35; exact quiet_left ((refSameBytes_ok _ K0 K x.1 p.1 c0 ck (Hs1.out.bz.bsame (by repeat' (first | exact Same.refl _ _ | assumption | refine Same.drew ?_ | refine Same.drewN ?_ _ | refine Same.alloc ?_ _ | refine Same.setCell ?_ (fun hq => by simp only [From] at hq; first | omega | (simp at hq; done) | (simp at hq; omega)) _))) (Hkr.out.bz.bsame (by repeat' (first | exact Same.refl _ _ | assumption | refine Same.drew ?_ | refine Same.drewN ?_ _ | refine Same.alloc ?_ _ | refine Same.setCell ?_ (fun hq => by simp only [From] at hq; first | omega | (simp at hq; done) | (simp at hq; omega)) _)))).mono fun e w' h => ⟨h.1.trans (ret_bool he), h.2⟩)))
        generalize hwq : World.drewN wr _ = wq
        have Hbq := Lib.hid (show Below w.heap.size w wq from hwq ▸ below_drewN Hbw.out _)
        have hbr : Below wr.heap.size wr wq := hwq ▸ below_drewN (Below.refl _ _) _
        have Hs2q := Lib.hid (Hs2.out.bbelow hbr)
        have Hvrq := Lib.hid (Hvr.out.bbelow hbr)
        have g1q := (hbr.cell (by have := Hbel.out.size; simp; omega)).trans g1
        have hc2q := (hbr.cell hal).trans hc2
        have hbz := hbr.size
        clear hwq
        go_wp2_with fail
        go_quiet ((go_at_call 35; exact quiet_left (refSameBytes_ok _ V0 V x.2 p.2 d0 cv (Hs2q.out.bz.bsame (by repeat' (first | exact Same.refl _ _ | assumption | refine Same.drew ?_ | refine Same.drewN ?_ _ | refine Same.alloc ?_ _ | refine Same.setCell ?_ (fun hq => by simp only [From] at hq; first | omega | (simp at hq; done) | (simp at hq; omega)) _))) (Hvrq.out.bz.bsame (by repeat' (first | exact Same.refl _ _ | assumption | refine Same.drew ?_ | refine Same.drewN ?_ _ | refine Same.alloc ?_ _ | refine Same.setCell ?_ (fun hq => by simp only [From] at hq; first | omega | (simp at hq; done) | (simp at hq; omega)) _))))))
        go_wp2
        go_ret
        (try rw [← Hpse.out])
        rw [Hgs.out]
        exact ⟨rfl, below_drewN Hbq.out _⟩
      · have Hst := Lib.hid (findVal_next hlt he)
        generalize ps[m] = x at *
        have hbz := Hbel.out
        go_wp2_with fail
        go_quiet ((go_at_call 35; exact quiet_left ((refSameBytes_ok _ K0 K x.1 p.1 c0 ck (Hs1.out.bz.bsame (by repeat' (first | exact Same.refl _ _ | assumption | refine Same.drew ?_ | refine Same.drewN ?_ _ | refine Same.alloc ?_ _ | refine Same.setCell ?_ (fun hq => by simp only [From] at hq; first | omega | (simp at hq; done) | (simp at hq; omega)) _))) (Hkr.out.bz.bsame (by repeat' (first | exact Same.refl _ _ | assumption | refine Same.drew ?_ | refine Same.drewN ?_ _ | refine Same.alloc ?_ _ | refine Same.setCell ?_ (fun hq => by simp only [From] at hq; first | omega | (simp at hq; done) | (simp at hq; omega)) _)))).mono fun e w' h => ⟨h.1.trans (ret_bool he), h.2⟩)))
        go_wp2
        go_roundw
        case rel => exact ⟨m + 1, by omega, by go_num, by rw [← Hst.out]; exact Hfv.out, below_drewN Hbel.out _, Hp.out.below pairR_stays (below_drewN (Below.refl _ _) _)⟩
        case measure => simp [intOf]; omega
    · obtain rfl : m = ps.length := by omega
      have Hgs := Lib.hid (Hfv.out.symm.trans findVal_end)
      go_wp2
      go_ret
      (try rw [← Hpse.out])
      rw [Hgs.out]
      exact ⟨rfl, Hbw.out⟩
set_option maxRecDepth 100000 in
set_option maxHeartbeats 2000000 in
theorem placedBefore_ok (w : World) (A B C A' B' C' : Option Addr) (x y : Wr) (a b c a' b' c' : Nat) (h1 : Bs All w A x.name) (h2 : Bs All w B x.key) (h3 : Bs All w A' y.name) (h4 : Bs All w B' y.key) :
    Calls Tryz.prog 36 #[.agg #[.slice A x.name.length a, .slice B x.key.length b, .bool x.flag, .slice C x.value.length c], .agg #[.slice A' y.name.length a', .slice B' y.key.length b', .bool y.flag, .slice C' y.value.length c']] w (RetV w (.bool (plLt x y))) := by
  obtain ⟨t1, t2, t4⟩ := two_newC w (.cells #[.slice A x.name.length a, .slice B x.key.length b, .bool x.flag, .slice C x.value.length c] 40) (.cells #[.slice A' y.name.length a', .slice B' y.key.length b', .bool y.flag, .slice C' y.value.length c'] 40)
  have H1 := Lib.hid (h1.bbelow t4)
  have H2 := Lib.hid (h2.bbelow t4)
  have H3 := Lib.hid (h3.bbelow t4)
  have H4 := Lib.hid (h4.bbelow t4)
  have Hb := Lib.hid t4
  clear h1 h2 h3 h4
  go_enter Tryz.func36, Tryz.ntmps36
  go_upto_region 1 with fail
  obtain ⟨W, hW⟩ : ∃ W, W = (w.alloc (.cells #[.slice A x.name.length a, .slice B x.key.length b, .bool x.flag, .slice C x.value.length c] 40)).alloc (.cells #[.slice A' y.name.length a', .slice B' y.key.length b', .bool y.flag, .slice C' y.value.length c'] 40) := ⟨_, rfl⟩
  rw [← hW] at t1 t2 H1 H2 H3 H4 Hb ⊢
  have g0 := box_cell t1 0
  have g1 := box_cell t1 1
  have k0 := box_cell t2 0
  have k1 := box_cell t2 1
  simp only [List.getElem?_cons_zero, List.getElem?_cons_succ] at g0 g1 k0 k1
  clear t1 t2 t4 hW
  have Hv := Lib.hid (show plLt x y = (lt x.name y.name || (x.name == y.name && lt x.key y.key)) from rfl)
  have e1 : ∃ q1, lt x.name y.name = q1 := ⟨_, rfl⟩
  obtain ⟨q1, e1⟩ := e1
  obtain ⟨q2, e2⟩ : ∃ q2, (x.name == y.name) = q2 := ⟨_, rfl⟩
  obtain ⟨q3, e3⟩ : ∃ q3, lt x.key y.key = q3 := ⟨_, rfl⟩
  have E1 := Lib.hid e1
  have E2 := Lib.hid e2
  have E3 := Lib.hid e3
  clear e1 e2 e3
  cases q1 <;> cases q2
  all_goals
    go_wp2_with (first
      | (go_at_call_of 52 A; (with_reducible refine (before_ok _ A A' x.name y.name a a' H1.out H3.out).mono ?_); rw [E1.out]; rintro e w2 ⟨rfl, rfl⟩)
      | (go_at_call_of 52 B; (with_reducible refine (before_ok _ B B' x.key y.key b b' H2.out H4.out).mono ?_); rw [E3.out]; rintro e w2 ⟨rfl, rfl⟩)
      | (go_at_call 35; (with_reducible refine (refSameBytes_ok _ A A' x.name y.name a a' H1.out H3.out).mono ?_); rw [E2.out]; rintro e w2 ⟨rfl, rfl⟩))
    go_ret
    refine ⟨ret_bool ?_, Hb.out⟩
    rw [Hv.out, E1.out, E2.out, E3.out]
    rfl
end Go.Proofs.YthohkgggodhbcaaGreat
