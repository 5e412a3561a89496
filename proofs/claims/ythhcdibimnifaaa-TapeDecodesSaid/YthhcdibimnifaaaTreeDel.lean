/- Walks: tree.Delete; the law TreeDeletes. -/
import Derived.Test.YthhcdibimnifaaaDel
import Derived.Test.YthhcdibimnifaaaSDel
namespace Go.Proofs.Ythhcdibimnifaaa
open Go.RowKit
set_option linter.unusedVariables false
set_option linter.unusedSimpArgs false

theorem filter_cut {l : List Pr} {k : List UInt8} {i : Nat} (hr : Rise (keys l)) (hi : i < l.length) (h : l[i].1 = k) : l.filter (notKey k) = cut1 l i := by
  have hne : ∀ j (hj : j < l.length), j ≠ i → notKey k l[j] = true := by
    intro j hj hji
    have : l[j].1 ≠ k := fun e => hji (rise_inj hr (i := j) (j := i) (by simpa [keys] using hj) (by simpa [keys] using hi) (by simp [keys, e, h]))
    simpa [notKey] using this
  have e1 : l = l.take i ++ l[i] :: l.drop (i + 1) := by rw [← List.drop_eq_getElem_cons hi, List.take_append_drop]
  have h0 : notKey k l[i] = false := by simp [notKey, h]
  conv => lhs; rw [e1]
  rw [List.filter_append, List.filter_cons, if_neg (by simp [h0])]
  unfold cut1
  congr 1
  · refine List.filter_eq_self.2 fun p hp => ?_
    obtain ⟨j, hj, rfl⟩ := List.mem_iff_getElem.1 hp
    rw [List.length_take] at hj
    rw [List.getElem_take]
    exact hne j (by omega) (by omega)
  · refine List.filter_eq_self.2 fun p hp => ?_
    obtain ⟨j, hj, rfl⟩ := List.mem_iff_getElem.1 hp
    rw [List.length_drop] at hj
    rw [List.getElem_drop]
    exact hne _ (by omega) (by omega)
theorem filter_none {l : List Pr} {k : List UInt8} {i : Nat} (hr : Rise (keys l)) (hat : At (keys l) k i) (h : (keys l)[i]? ≠ some k) : l.filter (notKey k) = l := by
  refine List.filter_eq_self.2 fun p hp => ?_
  obtain ⟨j, hj, rfl⟩ := List.mem_iff_getElem.1 hp
  have hjk : j < (keys l).length := by simpa [keys] using hj
  have hne : l[j].1 ≠ k := by
    intro e
    have ek : (keys l)[j] = k := by simp [keys, e]
    rcases (by omega : j < i ∨ j = i ∨ i < j) with h1 | h1 | h1
    · have := hat.low j h1 hjk
      rw [ek, lt_irrefl] at this
      cases this
    · subst h1
      exact h (by rw [List.getElem?_eq_getElem hjk, ek])
    · have h2 := hat.high i (Nat.le_refl _) (by omega)
      have h3 := hr i j h1 hjk
      rw [ek, h2] at h3
      cases h3
  simpa [notKey] using hne
set_option maxRecDepth 100000 in
set_option maxHeartbeats 1000000 in
theorem treeDelete_ok (w : World) (A : Option Addr) (l : List Pr) (c : Nat) (K : Option Addr) (k : List UInt8) (c1 : Nat) (ha : Ps All w A l) (hk : Bs All w K k) :
    Calls Try.prog 31 #[.slice A l.length c, .slice K k.length c1] w (RetPE w (delS l k)) := by
  have Ha := Lib.hid ha
  have Hk := Lib.hid hk
  clear ha hk
  by_cases h1 : pairsFaultS l = 0
  · have b1 : (pairsFaultS l != 0) = false := by simp [h1]
    obtain ⟨hl60, _, hrise⟩ := pairs_fine h1
    have Hr := Lib.hid (show Rise (keys l) from hrise)
    have Hl := Lib.hid hl60
    have H1 := Lib.hid h1
    clear h1 hrise hl60
    by_cases h2 : keyFault k = 0
    · have b2 : (keyFault k != 0) = false := by simp [h2]
      have Hv := Lib.hid (show delS l k = (l.filter (notKey k), 0) by simp [delS, pkFault, H1.out, h2])
      clear h2
      go_enter Try.func31, Try.ntmps31
      go_wp2_with (first
        | (go_at_call 83; refine (treeCheck_ok _ A l c Ha.out).mono ?_; rintro e w1 ⟨rfl, hb1⟩)
        | (go_at_call 84; refine (pathCheck_ok _ K k c1).mono ?_; rintro e w' ⟨rfl, rfl⟩))
      clear b1 b2
      have Hb1 := Lib.hid hb1
      clear hb1
      refine (treeAll_own _ A l c (Ha.out.below pairR_stays Hb1.out) (by have := Hl.out; omega)).mono ?_
      rintro e w2 ⟨v, rfl, hown, hb2⟩
      obtain ⟨A2, c2, rfl, hc2, hs2⟩ := hown.readc pairR_stays
      have Hown := Lib.hid hown
      have Hs2 := Lib.hid hs2
      have Hb12 := Lib.hid hb2
      have Hb2 := Lib.hid (Hb1.out.next hb2 Hb1.out.size)
      clear hown hs2 hb2
      go_wp2_with fail
      refine (treeFind_ok _ A2 l c2 K k c1 (Hs2.out.z pairR_stays) (Hk.out.bbelow Hb2.out) Hl.out Hr.out).mono ?_
      rintro e w3 ⟨i, rfl, hati, hb3⟩
      have Hb3 := Lib.hid (Hb2.out.next hb3 Hb2.out.size)
      have Hown3 := Lib.hid (Hown.out.same pairR_stays (Same.of_below hb3))
      have Hs3 := Lib.hid (Hs2.out.below pairR_stays hb3)
      have Hsz := Lib.hid hb3.size
      clear hb3
      by_cases hf : (keys l)[i]? = some k
      · rw [decide_eq_true hf]
        have hik : i < (keys l).length := by
          rcases Nat.lt_or_ge i (keys l).length with h | h
          · exact h
          · rw [List.getElem?_eq_none h] at hf; cases hf
        have hil : i < l.length := by simpa [keys] using hik
        have hli : l[i].1 = k := by
          rw [List.getElem?_eq_getElem hik, keys_at] at hf
          exact Option.some.inj hf
        have Hcut := Lib.hid (filter_cut Hr.out hil hli)
        have hl60 := Hl.out
        have hwi : IntKind.i64.wrap ((i : Int) + 1) = (i : Int) + 1 := by rw [IntKind.wrap_i64]; omega
        clear hf hik hli hati
        go_wp2_with fail
        refine (sdelete_ok _ w1.heap.size _ l i Hown3.out hil (Nat.le_trans Hb12.out.size Hsz.out)).mono ?_
        rintro e w4 ⟨A4, c4, rfl, hc4, hs4, hb4⟩
        go_wp2
        go_ret2
        rw [Hv.out, Hcut.out]
        exact ⟨A4, c4, rfl, hc4, hs4.lo pairR_stays Hb1.out.size, Hb3.out.trans (hb4.mono Hb1.out.size)⟩
      · rw [decide_eq_false hf]
        have Hno := Lib.hid (filter_none Hr.out hati hf)
        clear hf hati
        go_wp2
        go_ret2
        rw [Hv.out, Hno.out]
        exact ⟨A2, c2, rfl, hc2, Hs3.out.lo pairR_stays Hb1.out.size, Hb3.out⟩
    · have b2 : (keyFault k != 0) = true := by simpa using h2
      have Hv := Lib.hid (show delS l k = ([], keyFault k) by simp [delS, pkFault, H1.out, h2])
      clear h2
      go_enter Try.func31, Try.ntmps31
      go_wp2_with (first
        | (go_at_call 83; refine (treeCheck_ok _ A l c Ha.out).mono ?_; rintro e w1 ⟨rfl, hb1⟩)
        | (go_at_call 84; refine (pathCheck_ok _ K k c1).mono ?_; rintro e w' ⟨rfl, rfl⟩))
      go_ret2
      rw [Hv.out]
      exact ⟨none, 0, rfl, Nat.le_refl _, SL.nil, hb1⟩
  · have b1 : (pairsFaultS l != 0) = true := by simpa using h1
    have Hv := Lib.hid (show delS l k = ([], pairsFaultS l) by simp [delS, pkFault, h1])
    clear h1
    go_enter Try.func31, Try.ntmps31
    go_wp2_with (go_at_call 83; refine (treeCheck_ok _ A l c Ha.out).mono ?_; rintro e w1 ⟨rfl, hb1⟩)
    go_ret2
    rw [Hv.out]
    exact ⟨none, 0, rfl, Nat.le_refl _, SL.nil, hb1⟩
theorem delS_len (l : List Pr) (k : List UInt8) : (delS l k).1.length ≤ l.length := by
  unfold delS
  split
  · simp
  · exact List.length_filter_le _ _
set_option maxRecDepth 100000 in
set_option maxHeartbeats 1000000 in
theorem treeDeletes_walk (w : World) {A : Option Addr} {l : List Pr} {c : Nat} (h : Ps All w A l ∧ l.length * 48 ≤ 140737488355328) {K : Option Addr} {k : List UInt8} {c1 : Nat} (h' : Bs All w K k ∧ k.length ≤ big) :
    Calls Try.prog 5 #[.slice A l.length c, .slice K k.length c1] w (RetV w (.bool true)) := by
  have hlen : l.length ≤ big := by have := h.2; unfold big; omega
  have Hlen := Lib.hid hlen
  have Hlr := Lib.hid (Nat.le_trans (delS_len l k) hlen)
  have H := Lib.hid h
  have H' := Lib.hid h'
  clear h h' hlen
  go_enter Try.func5, Try.ntmps5
  go_wp2_with (first
    | (go_at_call 24; go_in)
    | (go_at_call 87; refine (pairsCopy_cap _ A l c H.out.1 H.out.2).mono ?_; rintro e w1 ⟨A1, c2, rfl, hcap, hs1, hb1⟩; have Hcap := Lib.hid hcap; clear hcap)
    | (go_at_call 25; (with_reducible refine (octets_ok _ K k c1 ?hx H'.out.2).mono ?_); (case hx => exact H'.out.1.bbelow hb1); rintro e w2 ⟨A2, c3, rfl, hs2, hb2⟩)
    | (go_at_call 31; refine (treeDelete_ok _ A1 l c2 A2 k c3 ((hs1.z pairR_stays).below pairR_stays hb2) hs2.bz).mono ?_; rintro e w4 ⟨A4, c5, rfl, _, hs4, hb4⟩; have hb123 : Below w.heap.size w w2 := (hb1.next hb2 hb1.size); have hb1234 := hb123.next hb4 hb123.size)
    | (go_at_call 32; refine (deletedOf_ok _ A l c K k c1 (H.out.1.below pairR_stays hb1234) (H'.out.1.bbelow hb1234)).mono ?_; rintro e w5 ⟨A5, c6, rfl, _, hs5, hb5⟩)
    | (go_at_call 30; (with_reducible refine (samePairs_ok _ A4 A5 (delS l k).1 c5 c6 ?hx ?hy Hlr.out).mono ?_); (case hx => exact (hs4.z pairR_stays).below pairR_stays hb5); (case hy => exact hs5.z pairR_stays); rintro e w6 ⟨rfl, hb6⟩)
    | (go_at_call 30; (with_reducible refine (samePairs_ok _ A1 A l c2 c ?hx ?hy Hlen.out).mono ?_); (case hx => exact ((hs1.z pairR_stays).below pairR_stays hb2).below pairR_stays ((hb4.next hb5 hb4.size).next hb6 (by have := hb4.size; have := hb5.size; omega))); (case hy => exact H.out.1.below pairR_stays ((hb1234.next hb5 hb1234.size).next hb6 (by have := hb1234.size; have := hb5.size; omega))); rintro e w7 ⟨rfl, hb7⟩))
  go_ret
  exact ⟨by simp, ((hb1234.next hb5 hb1234.size).next hb6 (by have := hb1234.size; have := hb5.size; omega)).next hb7 (by have := hb1234.size; have := hb5.size; have := hb6.size; omega)⟩
end Go.Proofs.Ythhcdibimnifaaa
