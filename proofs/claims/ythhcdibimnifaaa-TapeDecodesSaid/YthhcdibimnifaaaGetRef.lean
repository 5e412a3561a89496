/- Walks: GetOf of the references. -/
import Derived.Test.YthhcdibimnifaaaGet
namespace Go.Proofs.Ythhcdibimnifaaa
open Go.RowKit
set_option linter.unusedVariables false
set_option linter.unusedSimpArgs false

def pkFault (l : List Pr) (k : List UInt8) : Int := if pairsFaultS l ≠ 0 then pairsFaultS l else keyFault k
set_option maxRecDepth 100000 in
set_option maxHeartbeats 400000 in
theorem pairsAndKey_ok (w : World) (A : Option Addr) (l : List Pr) (c : Nat) (K : Option Addr) (k : List UInt8) (c1 : Nat) (ha : Ps All w A l) :
    Calls Try.prog 88 #[.slice A l.length c, .slice K k.length c1] w (RetV w (.int .i64 (pkFault l k))) := by
  have Ha := Lib.hid ha
  clear ha
  by_cases h1 : pairsFaultS l = 0
  · have b1 : (pairsFaultS l == 0) = true := by simp [h1]
    have Hv := Lib.hid (show pkFault l k = keyFault k by simp [pkFault, h1])
    clear h1
    go_enter Try.func88, Try.ntmps88
    go_wp2_with (first
      | (go_at_call 100; refine (pairsFault_ok _ A l c Ha.out).mono ?_; rintro e w1 ⟨rfl, hb1⟩)
      | (go_at_call 92; refine (keyFault_ok _ K k c1).mono ?_; rintro e w2 ⟨rfl, rfl⟩))
    go_ret
    exact ⟨ret_int Hv.out.symm, hb1⟩
  · have b1 : (pairsFaultS l == 0) = false := by simp [h1]
    have Hv := Lib.hid (show pkFault l k = pairsFaultS l by simp [pkFault, h1])
    clear h1
    go_enter Try.func88, Try.ntmps88
    go_wp2_with (go_at_call 100; refine (pairsFault_ok _ A l c Ha.out).mono ?_; rintro e w1 ⟨rfl, hb1⟩)
    go_ret
    exact ⟨ret_int Hv.out.symm, hb1⟩

theorem getS_bad {l : List Pr} {k : List UInt8} (h : pkFault l k ≠ 0) : getS l k = ((false, []), pkFault l k) := by
  unfold pkFault at *
  by_cases h1 : pairsFaultS l = 0
  · rw [if_neg (by simpa using h1)] at h ⊢
    exact getS_key h1 h
  · rw [if_pos h1] at h ⊢
    exact getS_pairs h1
theorem pk_fine {l : List Pr} {k : List UInt8} (h : pkFault l k = 0) : pairsFaultS l = 0 ∧ keyFault k = 0 := by
  unfold pkFault at h
  split at h
  · rename_i h1; exact absurd h h1
  · rename_i h1; exact ⟨by simpa using h1, h⟩
theorem findVal_next {l : List Pr} {k : List UInt8} {m : Nat} (hm : m < l.length) (h : (l[m].1 == k) = false) : findVal (l.drop m) k = findVal (l.drop (m + 1)) k := by
  rw [List.drop_eq_getElem_cons hm]
  simp only [findVal, List.find?_cons, h]
theorem findVal_here {l : List Pr} {k : List UInt8} {m : Nat} (hm : m < l.length) (h : (l[m].1 == k) = true) : findVal (l.drop m) k = some l[m].2 := by
  rw [List.drop_eq_getElem_cons hm]
  simp only [findVal, List.find?_cons, h, Option.map_some]

set_option maxRecDepth 100000 in
set_option maxHeartbeats 1000000 in
theorem getOf_ok (w : World) (A : Option Addr) (l : List Pr) (c : Nat) (K : Option Addr) (k : List UInt8) (c1 : Nat) (ha : Ps All w A l) (hk : Bs All w K k) :
    Calls Try.prog 26 #[.slice A l.length c, .slice K k.length c1] w (RetGet w (getS l k)) := by
  have Ha := Lib.hid ha
  have Hk := Lib.hid hk
  clear ha hk
  by_cases h1 : pkFault l k = 0
  · have b1 : (pkFault l k != 0) = false := by simp [h1]
    have H1 := Lib.hid (pk_fine h1)
    obtain ⟨hl60, _, _⟩ := pairs_fine (pk_fine h1).1
    clear h1
    go_enter Try.func26, Try.ntmps26
    go_wp2_with (go_at_call 88; refine (pairsAndKey_ok _ A l c K k c1 (Ha.out.below pairR_stays ?_)).mono ?_; (repeat' (first | exact Below.refl _ _ | assumption | refine Below.drew ?_ | refine below_drewN ?_ _ | refine Below.alloc ?_ (by first | exact Nat.le_refl _ | omega | (simp; done) | (simp; omega)) _)); rintro e w1 ⟨rfl, hb1⟩)
    clear b1
    have hbw : Below w.heap.size w w1 := Below.next ((Below.refl _ _).alloc (Nat.le_refl _) _) hb1 (by first | (simp; done) | omega | (simp; omega))
    have Hx1 := Lib.hid ((hb1.block w.heap.size (by first | (simp; done) | omega | (simp; omega))).trans (box_new w _ _))
    have hsz : w.heap.size + 1 ≤ w1.heap.size := by have := hb1.size; simpa using this
    clear hb1
    have Hbw := Lib.hid hbw
    clear hbw
    go_loopw [7] (fun i wr => ∃ m : Nat, m ≤ l.length ∧ i = .int .i64 m ∧ findVal (l.drop m) k = findVal l k ∧ Below w1.heap.size w1 wr) (fun i _ => l.length - (intOf i).toNat)
    case atStart => exact ⟨0, by omega, rfl, rfl, Below.refl _ _⟩
    case round =>
      obtain ⟨m, hm, rfl, hfv, hbel⟩ := hrel
      have Hfv := Lib.hid hfv
      have Hbel := Lib.hid hbel
      have hszr := hbel.size
      have Hxr := Lib.hid ((hbel.block w.heap.size (by omega)).trans Hx1.out)
      have Hbr := Lib.hid (Hbw.out.next hbel (by omega))
      clear hfv hbel
      by_cases hlt : m < l.length
      · obtain ⟨ab, ao, K0, c0, V0, d0, rfl, _, hal, hc1, hc2, hs1, hs2, _, hvl⟩ := pairs_at (Ha.out.below pairR_stays Hbr.out) hlt
        have Hkr := Lib.hid (Hk.out.bbelow Hbr.out)
        rcases Bool.eq_false_or_eq_true (l[m].1 == k) with he | he
        · have Hgs := Lib.hid (getS_found H1.out.1 H1.out.2 (Hfv.out ▸ findVal_here hlt he))
          generalize l[m] = x at *
          obtain ⟨g0, g1, f0, f1⟩ := box2 Hxr.out
          go_wp2_with (first
            | (go_at_call 89; refine (refSameBytes_ok _ K0 K x.1 k c0 c1 hs1.bz Hkr.out).mono ?_; rintro e w2 ⟨rfl, rfl⟩)
            | (go_at_call 90; refine (joinedNil_ok _ V0 x.2 d0 hs2.bz hvl).mono ?_; rintro e w4 ⟨A4, c4, rfl, hs4, hb4⟩; clear g0 g1 f0 f1; obtain ⟨g0, g1, f0, f1⟩ := box2 ((hb4.block w.heap.size (by omega)).trans Hxr.out)))
          have hsz4 := hb4.size
          refine bodyPost_ret (v := .tuple #[.agg #[.bool true, .slice A4 x.2.length c4], .int .i64 0]) (by simp [results, Try.results26, go_sem, g0, g1]) rfl ?_
          rw [Hgs.out]
          exact ⟨A4, c4, rfl, (hs4.bsame (((Same.refl _ _).setCell (fun hq => by simp only [From] at hq; omega) _).setCell (fun hq => by simp only [From] at hq; omega) _)).blo (by omega), Below.setCell (Below.setCell (Hbr.out.next hb4 (by omega)) (Nat.le_refl _) _) (Nat.le_refl _) _⟩
        · have Hst := Lib.hid (findVal_next hlt he)
          generalize l[m] = x at *
          go_wp2_with (go_at_call 89; refine (refSameBytes_ok _ K0 K x.1 k c0 c1 hs1.bz Hkr.out).mono ?_; rintro e w2 ⟨rfl, rfl⟩)
          go_roundw
          case rel => exact ⟨m + 1, by omega, by go_num, by rw [← Hst.out]; exact Hfv.out, Hbel.out⟩
          case measure => simp [intOf]; omega
      · obtain rfl : m = l.length := by omega
        have h0 := Hfv.out
        rw [List.drop_length] at h0
        have Hgs := Lib.hid (getS_none H1.out.1 H1.out.2 (h0 ▸ rfl))
        clear h0
        obtain ⟨g0, g1, f0, f1⟩ := box2 Hxr.out
        go_wp2
        refine bodyPost_ret (v := .tuple #[.agg #[.bool false, .slice none 0 0], .int .i64 0]) (by simp [results, Try.results26, go_sem, g0, g1]) rfl ?_
        rw [Hgs.out]
        exact ⟨none, 0, rfl, SL.nil, Below.setCell (Below.setCell Hbr.out (Nat.le_refl _) _) (Nat.le_refl _) _⟩
  · have Hgs := Lib.hid (getS_bad h1)
    have b1 : (pkFault l k != 0) = true := by simpa using h1
    clear h1
    go_enter Try.func26, Try.ntmps26
    go_wp2_with (go_at_call 88; refine (pairsAndKey_ok _ A l c K k c1 (Ha.out.below pairR_stays ?_)).mono ?_; (repeat' (first | exact Below.refl _ _ | assumption | refine Below.drew ?_ | refine below_drewN ?_ _ | refine Below.alloc ?_ (by first | exact Nat.le_refl _ | omega | (simp; done) | (simp; omega)) _)); rintro e w1 ⟨rfl, hb1⟩; obtain ⟨g0, g1, f0, f1⟩ := box2 ((hb1.block w.heap.size (by first | (simp; done) | omega | (simp; omega))).trans (box_new w _ _)))
    refine bodyPost_ret (v := .tuple #[.agg #[.bool false, .slice none 0 0], .int .i64 (pkFault l k)]) (by simp [results, Try.results26, go_sem, g0, g1]) rfl ?_
    rw [Hgs.out]
    exact ⟨none, 0, rfl, SL.nil, Below.setCell (Below.setCell (Below.next ((Below.refl _ _).alloc (Nat.le_refl _) _) hb1 (by first | (simp; done) | omega | (simp; omega))) (Nat.le_refl _) _) (Nat.le_refl _) _⟩

set_option maxRecDepth 100000 in
set_option maxHeartbeats 400000 in
theorem sameFinding_ok (w : World) (A B : Option Addr) (f : Finding) (c d : Nat) (ha : Bs All w A f.2) (hb : Bs All w B f.2) :
    Calls Try.prog 27 #[.agg #[.bool f.1, .slice A f.2.length c], .agg #[.bool f.1, .slice B f.2.length d]] w (RetV w (.bool true)) := by
  have Ha := Lib.hid ha
  have Hb := Lib.hid hb
  clear ha hb
  go_enter Try.func27, Try.ntmps27
  go_wp2_with (go_at_call 53; refine (sameBytes_ok _ A B f.2 f.2 c d (Ha.out.bbelow ?_) (Hb.out.bbelow ?_)).mono ?_; (repeat' (first | exact Below.refl _ _ | assumption | refine Below.drew ?_ | refine below_drewN ?_ _ | refine Below.alloc ?_ (by first | exact Nat.le_refl _ | omega | (simp; done) | (simp; omega)) _)); (repeat' (first | exact Below.refl _ _ | assumption | refine Below.drew ?_ | refine below_drewN ?_ _ | refine Below.alloc ?_ (by first | exact Nat.le_refl _ | omega | (simp; done) | (simp; omega)) _)); rintro e w2 ⟨rfl, rfl⟩)
  go_ret
  refine ⟨by simp, ?_⟩
  repeat' (first | exact Below.refl _ _ | assumption | refine Below.drew ?_ | refine below_drewN ?_ _ | refine Below.alloc ?_ (by first | exact Nat.le_refl _ | omega | (simp; done) | (simp; omega)) _)

set_option maxRecDepth 100000 in
set_option maxHeartbeats 1000000 in
theorem treeGets_walk (w : World) {A : Option Addr} {l : List Pr} {c : Nat} (h : Ps All w A l ∧ l.length * 48 ≤ 140737488355328) {K : Option Addr} {k : List UInt8} {c1 : Nat} (h' : Bs All w K k ∧ k.length ≤ big) :
    Calls Try.prog 3 #[.slice A l.length c, .slice K k.length c1] w (RetV w (.bool true)) := by
  have H := Lib.hid h
  have H' := Lib.hid h'
  clear h h'
  go_enter Try.func3, Try.ntmps3
  go_wp2_with (first
    | (go_at_call 24; go_in)
    | (go_at_call 87; refine (pairsCopy_ok _ A l c H.out.1 H.out.2).mono ?_; rintro e w1 ⟨A1, c2, rfl, hs1, hb1⟩)
    | (go_at_call 25; refine (octets_ok _ K k c1 (H'.out.1.bbelow hb1) H'.out.2).mono ?_; rintro e w2 ⟨A2, c3, rfl, hs2, hb2⟩)
    | (go_at_call 23; refine (treeGet_ok _ A1 l c2 A2 k c3 ((hs1.z pairR_stays).below pairR_stays hb2) hs2.bz).mono ?_; rintro e w3 ⟨A3, c4, rfl, hs3, hb3⟩)
    | (go_at_call 26; have hbw3 : Below w.heap.size w w3 := (hb1.next hb2 hb1.size).next hb3 (by have := hb1.size; have := hb2.size; omega); have hsz3 := hbw3.size; refine (getOf_ok _ A l c K k c1 (H.out.1.below pairR_stays (hbw3.alloc hsz3 _)) (H'.out.1.bbelow (hbw3.alloc hsz3 _))).mono ?_; rintro e w4 ⟨A4, c5, rfl, hs4, hb4⟩; have hsz4 : w3.heap.size < w4.heap.size := (by have := hb4.size; simp at this; omega); obtain ⟨g0, g1, _, _⟩ := box2 ((hb4.block w3.heap.size (by first | (simp; done) | omega | (simp; omega))).trans (box_new w3 _ _)))
    | (go_at_call 27; refine (sameFinding_ok _ A3 A4 (getS l k).1 c4 c5 ?hx ?hy).mono ?_; (case hx => exact hs3.bz.bbelow (((Below.refl _ _).alloc (Nat.le_refl _) _).next hb4 (by first | (simp; done) | omega | (simp; omega)) |>.alloc (by omega) _)); (case hy => exact hs4.bz.bbelow ((Below.refl _ _).alloc (Nat.le_refl _) _)); rintro e w5 ⟨rfl, hb5⟩))
  go_ret
  exact ⟨rfl, (((hbw3.alloc hsz3 _).next hb4 (by simp; omega)).alloc (by omega) _).next hb5 (by simp; omega)⟩
end Go.Proofs.Ythhcdibimnifaaa
