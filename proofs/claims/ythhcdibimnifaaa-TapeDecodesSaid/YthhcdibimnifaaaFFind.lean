/- Walks: a name looked for among tenants; the pairs of a tenant. -/
import Derived.Test.YthhcdibimnifaaaTen
import Derived.Test.YthhcdibimnifaaaFind
import Derived.Test.YthhcdibimnifaaaGet
import Derived.Test.YthhcdibimnifaaaForestCheck
namespace Go.Proofs.Ythhcdibimnifaaa
open Go.RowKit
set_option linter.unusedVariables false
set_option linter.unusedSimpArgs false

set_option maxRecDepth 100000 in
set_option maxHeartbeats 400000 in
theorem findCmp_ok (w : World) (A B : Option Addr) (t : Tn) (c d : Nat) (K : Option Addr) (k : List UInt8) (c1 : Nat) (ha : Bs All w A t.1) (hk : Bs All w K k) :
    Calls Try.prog 162 #[.agg #[.slice A t.1.length c, .slice B t.2.length d], .slice K k.length c1] w (RetV w (.int .i64 (cmp3 t.1 k))) := by
  have Ha := Lib.hid ha
  have Hk := Lib.hid hk
  clear ha hk
  go_enter Try.func162, Try.ntmps162
  go_wp2_with (go_at_call 103; refine (bytesCompare_ok _ A K t.1 k c c1 (Ha.out.bbelow ?_) (Hk.out.bbelow ?_)).mono ?_; (repeat' (first | exact Below.refl _ _ | assumption | refine Below.drew ?_ | refine below_drewN ?_ _ | refine Below.alloc ?_ (by first | exact Nat.le_refl _ | omega | (simp; done) | (simp; omega)) _)); (repeat' (first | exact Below.refl _ _ | assumption | refine Below.drew ?_ | refine below_drewN ?_ _ | refine Below.alloc ?_ (by first | exact Nat.le_refl _ | omega | (simp; done) | (simp; omega)) _)); rintro e w' ⟨rfl, rfl⟩)
  go_ret
  refine ⟨rfl, ?_⟩
  repeat' (first | exact Below.refl _ _ | assumption | refine Below.drew ?_ | refine below_drewN ?_ _ | refine Below.alloc ?_ (by first | exact Nat.le_refl _ | omega | (simp; done) | (simp; omega)) _)
set_option maxRecDepth 100000 in
set_option maxHeartbeats 1000000 in
theorem searchT_ok (w : World) (A : Option Addr) (l : List Tn) (c : Nat) (K : Option Addr) (k : List UInt8) (c1 : Nat) (ha : Ts All w A l) (hk : Bs All w K k) (hn : l.length ≤ 60) (hr : Rise (keys l)) :
    Calls Try.prog 161 #[.slice A l.length c, .slice K k.length c1, .func (.func 162) #[] #[]] w (RetFind w (keys l) k) := by
  have Ha := Lib.hid ha
  have Hk := Lib.hid hk
  have Hr := Lib.hid hr
  clear ha hk hr
  go_enter Try.func161, Try.ntmps161
  go_wp2
  go_loopw [9, 10, 11] (fun i j _ wr => ∃ a b : Nat, i = .int .i64 a ∧ j = .int .i64 b ∧ a ≤ b ∧ b ≤ l.length ∧ (∀ m (_ : m < a) (h : m < (keys l).length), lt (keys l)[m] k = true) ∧ (∀ m (_ : b ≤ m) (h : m < (keys l).length), lt (keys l)[m] k = false) ∧ Below w.heap.size w wr) (fun i j _ _ => (intOf j).toNat - (intOf i).toNat)
  case atStart => exact ⟨0, l.length, rfl, rfl, by omega, Nat.le_refl _, fun m h => absurd h (by omega), fun m h1 h2 => absurd h2 (by simp [keys]; omega), Below.refl _ _⟩
  case round =>
    obtain ⟨a, b, rfl, rfl, hab, hbl, hlow, hhigh, hbel⟩ := hrel
    have Hlow := Lib.hid hlow
    have Hhigh := Lib.hid hhigh
    have Hbel := Lib.hid hbel
    have hbz := hbel.size
    clear hlow hhigh hbel
    by_cases hlt : a < b
    · have hm1 : a ≤ (a + b) / 2 := by omega
      have hm2 : (a + b) / 2 < b := by omega
      have hml : (a + b) / 2 < l.length := by omega
      obtain ⟨ab, ao, K0, c0, V0, d0, rfl, _, hal, hc1, hc2, hs1, hs2, _, _⟩ := tens_at (Ha.out.below tenR_stays Hbel.out) hml
      have hi0 : (0 : Int) ≤ ((a : Int) + (b : Int)) / 2 := by omega
      have hi1 : ((a : Int) + (b : Int)) / 2 < (l.length : Int) := by omega
      have Hmi := Lib.hid (show ((a : Int) + (b : Int)) / 2 = (((a + b) / 2 : Nat) : Int) by omega)
      rcases Bool.eq_false_or_eq_true (lt l[(a + b) / 2].1 k) with ho | ho
      · have hcm : decide (cmp3 l[(a + b) / 2].1 k < 0) = true := by have := cmp3_neg ho; simpa using this
        have Hl := Lib.hid (low_of Hr.out (m := (a + b) / 2) (k := k) (by simpa [keys] using hml) (by rw [keys_at]; exact ho))
        clear ho
        generalize l[(a + b) / 2] = x at *
        go_wp2_with (go_at_call 162; refine (findCmp_ok _ K0 V0 x c0 d0 K k c1 hs1.bz (Hk.out.bbelow Hbel.out)).mono ?_; rintro e w2 ⟨rfl, hbw2⟩)
        go_roundw
        case rel => exact ⟨(a + b) / 2 + 1, b, by first | go_num | (have := Hmi.out; simp; omega), rfl, by omega, hbl, Hl.out, Hhigh.out, Hbel.out.next hbw2 hbz⟩
        case measure => simp [intOf]; omega
      · have hcm : decide (cmp3 l[(a + b) / 2].1 k < 0) = false := by have := cmp3_nonneg ho; simpa using this
        have Hl := Lib.hid (high_of Hr.out (m := (a + b) / 2) (k := k) (by simpa [keys] using hml) (by rw [keys_at]; exact ho))
        clear ho
        generalize l[(a + b) / 2] = x at *
        go_wp2_with (go_at_call 162; refine (findCmp_ok _ K0 V0 x c0 d0 K k c1 hs1.bz (Hk.out.bbelow Hbel.out)).mono ?_; rintro e w2 ⟨rfl, hbw2⟩)
        go_roundw
        case rel => exact ⟨a, (a + b) / 2, rfl, by first | rfl | go_num | (have := Hmi.out; simp; omega), by omega, by omega, Hlow.out, Hl.out, Hbel.out.next hbw2 hbz⟩
        case measure => simp [intOf]; omega
    · obtain rfl : a = b := by omega
      have Hat := Lib.hid (show At (keys l) k a from ⟨by simpa [keys] using hbl, Hlow.out, Hhigh.out⟩)
      clear Hlow Hhigh
      by_cases hml : a < l.length
      · have b1 : decide ((a : Int) < (l.length : Int)) = true := by simp; omega
        obtain ⟨ab, ao, K0, c0, V0, d0, rfl, _, hal, hc1, hc2, hs1, hs2, _, _⟩ := tens_at (Ha.out.below tenR_stays Hbel.out) hml
        have hi0 : (0 : Int) ≤ (a : Int) := by omega
        have hi1 : (a : Int) < (l.length : Int) := by omega
        have hfe : (cmp3 l[a].1 k == 0) = decide ((keys l)[a]? = some k) := by
          rw [cmp3_zero]
          rw [Bool.eq_iff_iff]
          simp [keys, hml]
        have Hfe := Lib.hid hfe
        clear hfe
        go_wp2_with (go_at_call 162; refine (findCmp_ok _ K0 V0 l[a] c0 d0 K k c1 hs1.bz (Hk.out.bbelow Hbel.out)).mono ?_; rintro e w2 ⟨rfl, hbw2⟩)
        go_ret2
        exact ⟨a, by rw [← Hfe.out]; rfl, Hat.out, Hbel.out.next hbw2 hbz⟩
      · have b1 : decide ((a : Int) < (l.length : Int)) = false := by simp; omega
        go_wp2
        go_ret2
        refine ⟨a, ?_, Hat.out, Hbel.out⟩
        have hq : (keys l)[a]? = none := List.getElem?_eq_none (by simp [keys]; omega)
        rw [hq]
        rfl
set_option maxRecDepth 100000 in
set_option maxHeartbeats 1000000 in
theorem forestFind_ok (w : World) (A : Option Addr) (l : List Tn) (c : Nat) (K : Option Addr) (k : List UInt8) (c1 : Nat) (ha : Ts All w A l) (hk : Bs All w K k) (hn : l.length ≤ 60) (hr : Rise (keys l)) :
    Calls Try.prog 154 #[.slice A l.length c, .slice K k.length c1] w (RetFind w (keys l) k) := by
  have Ha := Lib.hid ha
  have Hk := Lib.hid hk
  have Hr := Lib.hid hr
  have Hn := Lib.hid hn
  clear ha hk hr hn
  go_enter Try.func154, Try.ntmps154
  go_wp2_with (go_at_call 161; refine (searchT_ok _ A l c K k c1 Ha.out Hk.out Hn.out Hr.out).mono ?_; rintro e w1 ⟨i, rfl, hat, hb1⟩; dsimp only)
  go_ret2
  exact ⟨i, rfl, hat, hb1⟩

/-- The pairs of a tenant; none, if there is no such. -/
def pairsOfS (l : List Tn) (k : List UInt8) : List Pr := ((l.find? (·.1 == k)).map (·.2)).getD []
/-- The call returns pairs that lie there already. -/
def RetPsOld (w : World) (l : List Pr) (e : Ending) (w' : World) : Prop :=
  ∃ A c, e = .returned (.slice A l.length c) ∧ Ps All w' A l ∧ l.length * 48 ≤ 140737488355328 ∧ l.length ≤ c ∧ Below w.heap.size w w'
theorem ten_fine {l : List Tn} (h : forestFaultS l = 0) : l.length ≤ 8 ∧ (∀ t ∈ l, tenOne t = 0) ∧ Rise (keys l) := by
  unfold forestFaultS at h
  split at h
  · simp at h
  · rename_i hl
    have hz := firstBad_zero _ _ h
    have hp : ∀ i (hi : i < l.length), tenOne l[i] = 0 := fun i hi => by
      have := hz i hi
      rw [Nat.zero_add] at this
      by_cases hb : tenOne l[i] = 0
      · exact hb
      · rw [tenAt_bad hi hb] at this; exact this
    refine ⟨by omega, fun p hp' => ?_, rise_of_steps fun i hi => ?_⟩
    · obtain ⟨i, hi, rfl⟩ := List.getElem_of_mem hp'
      exact hp i hi
    · have hi' : i + 1 < l.length := by simpa [keys] using hi
      simp only [keys_at]
      have := hz (i + 1) hi'
      rw [Nat.zero_add] at this
      rcases Bool.eq_false_or_eq_true (lt l[i].1 l[i + 1].1) with ho | ho
      · exact ho
      · rw [tenAt_order hi' (hp _ hi') ho] at this
        cases this
theorem find_at {β : Type} {l : List (List UInt8 × β)} {k : List UInt8} (hr : Rise (keys l)) {i : Nat} (hi : i < l.length) (h : l[i].1 = k) : l.find? (·.1 == k) = some l[i] := by
  rw [List.find?_eq_some_iff_getElem]
  refine ⟨by simpa using h, i, hi, rfl, fun j hj => ?_⟩
  have hjl : j < l.length := by omega
  simp only [Bool.not_eq_true', beq_eq_false_iff_ne]
  intro e
  have := rise_inj hr (i := j) (j := i) (by simpa [keys] using hjl) (by simpa [keys] using hi) (by rw [keys_at, keys_at, e, h])
  omega
theorem find_not {β : Type} {l : List (List UInt8 × β)} {k : List UInt8} {i : Nat} (hr : Rise (keys l)) (hat : At (keys l) k i) (h : (keys l)[i]? ≠ some k) : l.find? (·.1 == k) = none := by
  rw [List.find?_eq_none]
  intro p hp
  obtain ⟨j, hj, rfl⟩ := List.getElem_of_mem hp
  have hjk : j < (keys l).length := by simpa [keys] using hj
  simp only [beq_iff_eq]
  intro e
  have ek : (keys l)[j] = k := by rw [keys_at]; exact e
  rcases (by omega : j < i ∨ i ≤ j) with h1 | h1
  · have := hat.low j h1 hjk; rw [ek, lt_irrefl] at this; cases this
  · rcases (by omega : i = j ∨ i < j) with h2 | h2
    · subst h2
      exact h (by rw [List.getElem?_eq_getElem hjk, ek])
    · have h3 := hr i j h2 hjk
      rw [ek, hat.high i (Nat.le_refl _) (by omega)] at h3
      cases h3
set_option maxRecDepth 100000 in
set_option maxHeartbeats 1000000 in
theorem forestPairs_ok (w : World) (A : Option Addr) (l : List Tn) (c : Nat) (K : Option Addr) (k : List UInt8) (c1 : Nat) (ha : Ts All w A l) (hk : Bs All w K k) (hn : l.length ≤ 60) (hr : Rise (keys l)) :
    Calls Try.prog 107 #[.slice A l.length c, .slice K k.length c1] w (RetPsOld w (pairsOfS l k)) := by
  have Ha := Lib.hid ha
  have Hk := Lib.hid hk
  have Hr := Lib.hid hr
  have Hn := Lib.hid hn
  clear ha hk hr hn
  go_enter Try.func107, Try.ntmps107
  go_wp2_with fail
  refine (forestFind_ok _ A l c K k c1 Ha.out Hk.out Hn.out Hr.out).mono ?_
  rintro e w1 ⟨i, rfl, hat, hb1⟩
  have Hb1 := Lib.hid hb1
  by_cases hf : (keys l)[i]? = some k
  · rw [decide_eq_true hf]
    have hik : i < (keys l).length := by
      rcases Nat.lt_or_ge i (keys l).length with h | h
      · exact h
      · rw [List.getElem?_eq_none h] at hf; cases hf
    have hil : i < l.length := by simpa [keys] using hik
    have hli : l[i].1 = k := by
      rw [List.getElem?_eq_getElem hik, keys_at] at hf
      exact Option.some.inj hf
    have Hv := Lib.hid (show pairsOfS l k = l[i].2 by simp only [pairsOfS, find_at Hr.out hil hli]; rfl)
    obtain ⟨ab, ao, K0, c0, V0, d0, rfl, _, hal, hc1, hc2, hs1, hs2, _, hbb, hbc⟩ := tens_at (Ha.out.below tenR_stays Hb1.out) hil
    have hi0 : (0 : Int) ≤ (i : Int) := by omega
    have hi1 : (i : Int) < (l.length : Int) := by omega
    have Hs2 := Lib.hid hs2
    clear hf hik hli hat hb1 hs2
    go_wp2
    go_ret
    rw [Hv.out]
    exact ⟨V0, d0, rfl, Hs2.out, hbb, hbc, Hb1.out⟩
  · rw [decide_eq_false hf]
    have Hv := Lib.hid (show pairsOfS l k = [] by simp only [pairsOfS, find_not Hr.out hat hf]; rfl)
    clear hf hat hb1
    go_wp2
    go_ret
    rw [Hv.out]
    exact ⟨none, 0, rfl, SL.nil, by simp, by simp, Hb1.out⟩
theorem pairsOf_next {l : List Tn} {k : List UInt8} {m : Nat} (hm : m < l.length) (h : (l[m].1 == k) = false) : pairsOfS (l.drop m) k = pairsOfS (l.drop (m + 1)) k := by
  rw [List.drop_eq_getElem_cons hm]
  simp only [pairsOfS, List.find?_cons, h]
theorem pairsOf_here {l : List Tn} {k : List UInt8} {m : Nat} (hm : m < l.length) (h : (l[m].1 == k) = true) : pairsOfS (l.drop m) k = l[m].2 := by
  rw [List.drop_eq_getElem_cons hm]
  simp only [pairsOfS, List.find?_cons, h, Option.map_some, Option.getD_some]
set_option maxRecDepth 100000 in
set_option maxHeartbeats 1000000 in
theorem pairsOf_ok (w : World) (A : Option Addr) (l : List Tn) (c : Nat) (K : Option Addr) (k : List UInt8) (c1 : Nat) (ha : Ts All w A l) (hk : Bs All w K k) (hn : l.length * 48 ≤ 140737488355328) :
    Calls Try.prog 109 #[.slice A l.length c, .slice K k.length c1] w (RetPsOld w (pairsOfS l k)) := by
  have Ha := Lib.hid ha
  have Hk := Lib.hid hk
  clear ha hk
  go_enter Try.func109, Try.ntmps109
  go_wp2
  go_loopw [5] (fun i wr => ∃ m : Nat, m ≤ l.length ∧ i = .int .i64 m ∧ pairsOfS (l.drop m) k = pairsOfS l k ∧ Below w.heap.size w wr) (fun i _ => l.length - (intOf i).toNat)
  case atStart => exact ⟨0, by omega, rfl, rfl, Below.refl _ _⟩
  case round =>
    obtain ⟨m, hm, rfl, hfv, hbel⟩ := hrel
    have Hfv := Lib.hid hfv
    have Hbel := Lib.hid hbel
    clear hfv hbel
    by_cases hlt : m < l.length
    · obtain ⟨ab, ao, K0, c0, V0, d0, rfl, _, hal, hc1, hc2, hs1, hs2, _, hbb, hbc⟩ := tens_at (Ha.out.below tenR_stays Hbel.out) hlt
      have Hkr := Lib.hid (Hk.out.bbelow Hbel.out)
      have Hs2 := Lib.hid hs2
      clear hs2
      rcases Bool.eq_false_or_eq_true (l[m].1 == k) with he | he
      · have Hgs := Lib.hid (show pairsOfS l k = l[m].2 by rw [← Hfv.out]; exact pairsOf_here hlt he)
        generalize l[m] = x at *
        go_wp2_with (go_at_call 89; refine (refSameBytes_ok _ K0 K x.1 k c0 c1 hs1.bz Hkr.out).mono ?_; rintro e w2 ⟨rfl, rfl⟩)
        go_ret
        rw [Hgs.out]
        exact ⟨V0, d0, rfl, Hs2.out, hbb, hbc, Hbel.out⟩
      · have Hst := Lib.hid (pairsOf_next hlt he)
        generalize l[m] = x at *
        go_wp2_with (go_at_call 89; refine (refSameBytes_ok _ K0 K x.1 k c0 c1 hs1.bz Hkr.out).mono ?_; rintro e w2 ⟨rfl, rfl⟩)
        go_roundw
        case rel => exact ⟨m + 1, by omega, by go_num, by rw [← Hst.out]; exact Hfv.out, Hbel.out⟩
        case measure => simp [intOf]; omega
    · obtain rfl : m = l.length := by omega
      have Hgs := Lib.hid (show pairsOfS l k = [] by rw [← Hfv.out, List.drop_length]; rfl)
      go_wp2
      go_ret
      rw [Hgs.out]
      exact ⟨none, 0, rfl, SL.nil, by simp, by simp, Hbel.out⟩
end Go.Proofs.Ythhcdibimnifaaa
