/- The laws ForestChecks, ForestGets, ForestRanges: their walks. -/
import Derived.Test.YthhcdibimnifaaaFGet
import Derived.Test.YthhcdibimnifaaaCopy
namespace Go.Proofs.Ythhcdibimnifaaa
open Go.RowKit
set_option linter.unusedVariables false
set_option linter.unusedSimpArgs false

theorem forestCopy_ok (w : World) (A : Option Addr) (l : List Tn) (c : Nat) (ha : Ts All w A l) (hn : l.length * 48 ≤ 140737488355328) :
    Calls Try.prog 104 #[.slice A l.length c] w (RetSLc 2 TenR w l) :=
  (forestCopy_own w A l c ha hn).mono fun _ _ ⟨_, he, h, hb⟩ => by
    obtain ⟨A', c', rfl, hcap, hsl⟩ := h.readc tenR_stays
    exact ⟨A', c', he, hcap, hsl, hb⟩
set_option maxRecDepth 100000 in
set_option maxHeartbeats 400000 in
theorem forestChecks_walk (w : World) {A : Option Addr} {l : List Tn} {c : Nat} (h : Ts All w A l ∧ l.length * 48 ≤ 140737488355328) :
    Calls Try.prog 7 #[.slice A l.length c] w (RetV w (.bool true)) := by
  have H := Lib.hid h
  clear h
  go_enter Try.func7, Try.ntmps7
  go_wp2_with (first
    | (go_at_call 37; go_in)
    | (go_at_call 104; refine (forestCopy_ok _ A l c H.out.1 H.out.2).mono ?_; rintro e w1 ⟨A1, c2, rfl, _, hs1, hb1⟩)
    | (go_at_call 36; refine (forestCheck_ok _ A1 l c2 (hs1.z tenR_stays)).mono ?_; rintro e w2 ⟨rfl, hb2⟩)
    | (go_at_call 38; refine (forestFault_ok _ A l c (H.out.1.below tenR_stays (hb1.next hb2 hb1.size))).mono ?_; rintro e w3 ⟨rfl, hb3⟩))
  go_ret
  exact ⟨by simp, (hb1.next hb2 hb1.size).next hb3 (Nat.le_trans hb1.size hb2.size)⟩
set_option maxRecDepth 100000 in
set_option maxHeartbeats 1000000 in
theorem forestGets_walk (w : World) {A : Option Addr} {l : List Tn} {c : Nat} (h : Ts All w A l ∧ l.length * 48 ≤ 140737488355328) {N : Option Addr} {n : List UInt8} {cn : Nat} (hn : Bs All w N n ∧ n.length ≤ big) {K : Option Addr} {k : List UInt8} {c1 : Nat} (h' : Bs All w K k ∧ k.length ≤ big) :
    Calls Try.prog 8 #[.slice A l.length c, .slice N n.length cn, .slice K k.length c1] w (RetV w (.bool true)) := by
  have H := Lib.hid h
  have Hn := Lib.hid hn
  have H' := Lib.hid h'
  clear h h' hn
  go_enter Try.func8, Try.ntmps8
  go_wp2_with (first
    | (go_at_call 37; go_in)
    | (go_at_call 104; refine (forestCopy_ok _ A l c H.out.1 H.out.2).mono ?_; rintro e w1 ⟨A1, c2, rfl, _, hs1, hb1⟩; have hz1 := hb1.size)
    | (go_at_call 25; (with_reducible refine (octets_ok _ N n cn ?hx Hn.out.2).mono ?_); (case hx => exact Hn.out.1.bbelow hb1); rintro e w2 ⟨A2, c3, rfl, hs2, hb2⟩; have hb02 := hb1.next hb2 hz1; have hz2 := hb02.size)
    | (go_at_call 25; (with_reducible refine (octets_ok _ K k c1 ?hx H'.out.2).mono ?_); (case hx => exact H'.out.1.bbelow hb02); rintro e w3 ⟨A3, c4, rfl, hs3, hb3⟩; have hb03 := hb02.next hb3 hz2; have hz3 := hb03.size)
    | (go_at_call 39; refine (forestGet_ok _ A1 l c2 A2 n c3 A3 k c4 (((hs1.z tenR_stays).below tenR_stays hb2).below tenR_stays hb3) (hs2.bz.bbelow hb3) hs3.bz).mono ?_; rintro e w4 ⟨A4, c5, rfl, hs4, hb4⟩; have hb04 := hb03.next hb4 hz3; have hz4 := hb04.size)
    | (go_at_call 40; refine (refForestGet_ok _ A l c N n cn K k c1 (H.out.1.below tenR_stays (hb04.alloc hz4 _)) (Hn.out.1.bbelow (hb04.alloc hz4 _)) (H'.out.1.bbelow (hb04.alloc hz4 _))).mono ?_; rintro e w5 ⟨A5, c6, rfl, hs5, hb5⟩; have hsz5 : w4.heap.size < w5.heap.size := (by have := hb5.size; simp at this; omega); obtain ⟨g0, g1, _, _⟩ := box2 ((hb5.block w4.heap.size (by first | (simp; done) | omega | (simp; omega))).trans (box_new w4 _ _)))
    | (go_at_call 27; refine (sameFinding_ok _ A4 A5 (forestGetS l n k).1 c5 c6 ?hx ?hy).mono ?_; (case hx => exact hs4.bz.bbelow (((Below.refl _ _).alloc (Nat.le_refl _) _).next hb5 (by first | (simp; done) | omega | (simp; omega)) |>.alloc (by omega) _)); (case hy => exact hs5.bz.bbelow ((Below.refl _ _).alloc (Nat.le_refl _) _)); rintro e w6 ⟨rfl, hb6⟩))
  go_ret
  exact ⟨rfl, (((hb04.alloc hz4 _).next hb5 (by simp; omega)).alloc (by omega) _).next hb6 (by simp; omega)⟩
theorem forestRangeS_len (l : List Tn) (n k m : List UInt8) : (forestRangeS l n k m).1.length ≤ (pairsOfS l n).length := by
  unfold forestRangeS
  split
  · simp
  · unfold rangeS
    split
    · simp
    · exact List.length_filter_le _ _
theorem range_fine_len {l : List Tn} {n k m : List UInt8} : (forestRangeS l n k m).1.length ≤ 60 := by
  by_cases h1 : fnFault l n = 0
  · unfold forestRangeS rangeS
    rw [if_neg (by simpa using h1)]
    by_cases h2 : rangeFault (pairsOfS l n) k m = 0
    · rw [if_neg (by simpa using h2)]
      have : pairsFaultS (pairsOfS l n) = 0 := by
        unfold rangeFault at h2
        split at h2
        · rename_i h3; exact absurd h2 h3
        · rename_i h3; simpa using h3
      have h4 := (pairs_fine this).1
      have h5 := List.length_filter_le (inRange k m) (pairsOfS l n)
      show ((pairsOfS l n).filter (inRange k m)).length ≤ 60
      omega
    · rw [if_pos h2]; simp
  · unfold forestRangeS
    rw [if_pos h1]; simp
set_option maxRecDepth 100000 in
set_option maxHeartbeats 1000000 in
theorem forestRanges_walk (w : World) {A : Option Addr} {l : List Tn} {c : Nat} (h : Ts All w A l ∧ l.length * 48 ≤ 140737488355328) {N : Option Addr} {n : List UInt8} {cn : Nat} (hn : Bs All w N n ∧ n.length ≤ big) {K : Option Addr} {k : List UInt8} {c1 : Nat} (h' : Bs All w K k ∧ k.length ≤ big) {M : Option Addr} {m : List UInt8} {cm : Nat} (hm : Bs All w M m ∧ m.length ≤ big) :
    Calls Try.prog 9 #[.slice A l.length c, .slice N n.length cn, .slice K k.length c1, .slice M m.length cm] w (RetV w (.bool true)) := by
  have H := Lib.hid h
  have Hn := Lib.hid hn
  have H' := Lib.hid h'
  have Hm := Lib.hid hm
  have Hlr := Lib.hid (show (forestRangeS l n k m).1.length ≤ big by have := range_fine_len (l := l) (n := n) (k := k) (m := m); unfold big; omega)
  clear h h' hn hm
  go_enter Try.func9, Try.ntmps9
  go_wp2_with (first
    | (go_at_call 37; go_in)
    | (go_at_call 104; refine (forestCopy_ok _ A l c H.out.1 H.out.2).mono ?_; rintro e w1 ⟨A1, c2, rfl, _, hs1, hb1⟩; have hz1 := hb1.size)
    | (go_at_call 25; (with_reducible refine (octets_ok _ N n cn ?hx Hn.out.2).mono ?_); (case hx => exact Hn.out.1.bbelow hb1); rintro e w2 ⟨A2, c3, rfl, hs2, hb2⟩; have hb02 := hb1.next hb2 hz1; have hz2 := hb02.size)
    | (go_at_call 25; (with_reducible refine (octets_ok _ K k c1 ?hx H'.out.2).mono ?_); (case hx => exact H'.out.1.bbelow hb02); rintro e w3 ⟨A3, c4, rfl, hs3, hb3⟩; have hb03 := hb02.next hb3 hz2; have hz3 := hb03.size)
    | (go_at_call 25; (with_reducible refine (octets_ok _ M m cm ?hx Hm.out.2).mono ?_); (case hx => exact Hm.out.1.bbelow hb03); rintro e w4 ⟨A4, c5, rfl, hs4, hb4⟩; have hb04 := hb03.next hb4 hz3; have hz4 := hb04.size)
    | (go_at_call 41; refine (forestRange_ok _ A1 l c2 A2 n c3 A3 k c4 A4 m c5 ((((hs1.z tenR_stays).below tenR_stays hb2).below tenR_stays hb3).below tenR_stays hb4) ((hs2.bz.bbelow hb3).bbelow hb4) (hs3.bz.bbelow hb4) hs4.bz).mono ?_; rintro e w5 ⟨A5, c6, rfl, _, hs5, hb5⟩; have hb05 := hb04.next hb5 hz4; have hz5 := hb05.size)
    | (go_at_call 42; refine (refForestRange_ok _ A l c N n cn K k c1 M m cm (H.out.1.below tenR_stays hb05) (Hn.out.1.bbelow hb05) (H'.out.1.bbelow hb05) (Hm.out.1.bbelow hb05)).mono ?_; rintro e w6 ⟨A6, c7, rfl, _, hs6, hb6⟩; have hb06 := hb05.next hb6 hz5; have hz6 := hb06.size)
    | (go_at_call 30; (with_reducible refine (samePairs_ok _ A5 A6 (forestRangeS l n k m).1 c6 c7 ?hx ?hy Hlr.out).mono ?_); (case hx => exact (hs5.z pairR_stays).below pairR_stays hb6); (case hy => exact hs6.z pairR_stays); rintro e w7 ⟨rfl, hb7⟩; have hb07 := hb06.next hb7 hz6))
  go_ret
  exact ⟨by simp, hb07⟩
end Go.Proofs.Ythhcdibimnifaaa
