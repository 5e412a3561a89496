/- Walks: ProofFault; words for proof.Check. -/
import Derived.Test.YthhcdibimnifaaaPf
namespace Go.Proofs.Ythhcdibimnifaaa
open Go.RowKit
set_option linter.unusedVariables false
set_option linter.unusedSimpArgs false


theorem one_pair {w : World} {g : Nat} {t : TypeId} {K V : Option Addr} {p : Pr} {a b : Nat} (h : w.heap[g]? = some (.cells #[.slice K p.1.length a, .slice V p.2.length b] t (0, 0))) (hK : Bs All w K p.1) (hV : Bs All w V p.2) (h1 : p.1.length ≤ big) (h2 : p.2.length ≤ big) :
    Ps All w (some ⟨g, 0, none⟩) [p] := by
  intro _
  refine ⟨g, 0, rfl, trivial, (Array.getElem?_eq_some_iff.1 h).1, fun i hi => ?_⟩
  obtain rfl : i = 0 := by simpa using hi
  refine ⟨[.slice K p.1.length a, .slice V p.2.length b], rfl, fun j hj => ?_, K, a, V, b, rfl, hK, hV, h1, h2⟩
  have := box_cell (cs := [.slice K p.1.length a, .slice V p.2.length b]) h j
  simpa using this
theorem pairsFault_one (p : Pr) : pairsFaultS [p] = pairFaultS p := by
  by_cases h : pairFaultS p = 0 <;> simp [pairsFaultS, firstBad, pairAt, h]
theorem treeCheckOne_ok (w : World) (g : Nat) (t : TypeId) (K V : Option Addr) (p : Pr) (a b : Nat) (h : w.heap[g]? = some (.cells #[.slice K p.1.length a, .slice V p.2.length b] t (0, 0))) (hK : Bs All w K p.1) (hV : Bs All w V p.2) (h1 : p.1.length ≤ big) (h2 : p.2.length ≤ big) :
    Calls Try.prog 83 #[.slice (some ⟨g, 0, none⟩) 1 1] w (RetV w (.int .i64 (pairFaultS p))) := by
  have h3 := treeCheck_ok w (some ⟨g, 0, none⟩) [p] 1 (one_pair h hK hV h1 h2)
  rw [pairsFault_one] at h3
  exact h3
theorem bitS_in {a : List UInt8} {n : Nat} (h : keyFault a = 0) (hn : n ≤ 144) : (bitS a (n : Int)).1 = bitB a n ∧ (bitS a (n : Int)).2 = 0 := by
  have e : bitS a n = (bitB a n, 0) := by unfold bitS; rw [if_pos h, if_pos (by omega)]; simp
  rw [e]
  exact ⟨rfl, rfl⟩
theorem bitS_out {a : List UInt8} {i : Int} (h : keyFault a = 0) (hn : ¬ (0 ≤ i ∧ i ≤ 144)) : (bitS a i).1 = false ∧ (bitS a i).2 = 2 := by
  have e : bitS a i = (false, 2) := by unfold bitS; rw [if_pos h, if_neg hn]
  rw [e]
  exact ⟨rfl, rfl⟩
theorem pairFault_key {p : Pr} (h : pairFaultS p = 0) : keyFault p.1 = 0 := by
  unfold pairFaultS at h
  split at h
  · omega
  · exact h
theorem proofFault_key {k : List UInt8} {p : Pf} (h : keyFault k = 0) : proofFaultS k p = mayFault k p := by
  unfold proofFaultS
  rw [if_neg (by simpa using h)]

set_option maxHeartbeats 400000 in
theorem proofNone_ok (w : World) (K V : Option Addr) (p : Pr) (a b : Nat) (h1 : p.1.length ≤ big) (h2 : p.2.length ≤ big) :
    Calls Try.prog 146 #[.agg #[.slice K p.1.length a, .slice V p.2.length b]] w (RetV w (.bool (decide (p.1.length = 0) && decide (p.2.length = 0)))) := by
  have H1 := Lib.hid h1
  have H2 := Lib.hid h2
  have hw : IntKind.i64.wrap ((p.1.length : Int) + (p.2.length : Int)) = (p.1.length : Int) + (p.2.length : Int) := IntWalk.i64_in _ (by unfold big at h1 h2; omega)
  clear h1 h2
  go_enter Try.func146, Try.ntmps146
  go_wp2
  go_ret
  refine ⟨ret_bool ?_, by repeat' (first | exact Below.refl _ _ | assumption | refine Below.drew ?_ | refine below_drewN ?_ _ | refine Below.alloc ?_ (by first | exact Nat.le_refl _ | omega | (simp; done) | (simp; omega)) _)⟩
  generalize p.1.length = x
  generalize p.2.length = y
  rw [Bool.eq_iff_iff]
  simp
  omega
set_option maxRecDepth 100000 in
set_option maxHeartbeats 4000000 in
theorem proofFault_ok (w : World) (D : Option Addr) (k : List UInt8) (dc : Nat) (A K V : Option Addr) (p : Pf) (n a b : Nat) (hk : Bs All w D k) (ha : Sts All w A p.steps) (hK : Bs All w K p.pair.1) (hst : p.steps.length * 40 ≤ 140737488355328) :
    Calls Try.prog 81 #[.slice D k.length dc, .agg #[.bool p.empty, .slice A p.steps.length n, .slice K p.pair.1.length a, .slice V p.pair.2.length b]] w (RetV w (.int .i64 (proofFaultS k p))) := by
  have Hk := Lib.hid hk
  have Ha := Lib.hid ha
  have HK := Lib.hid hK
  clear hk ha hK
  by_cases he : keyFault k = 0
  · rw [proofFault_key he]
    have Hmay := Lib.hid (fun W (h : Below w.heap.size w W) => proofMay_ok W D k dc A K V p n a b (Hk.out.bbelow h) (Ha.out.below stR_stays h) (HK.out.bbelow h) (key16 he) hst)
    have He := Lib.hid he
    rcases mayFault_04 k p with h | h
    all_goals
      rw [h] at Hmay ⊢
      clear he h
      go_enter Try.func81, Try.ntmps81
      go_wp2_with (first
        | (go_at_call 92; refine (keyFault_ok _ D k dc).mono ?_; rintro e w1 ⟨rfl, rfl⟩; rw [He.out])
        | (go_at_call 148; refine (Hmay.out _ ?_).mono ?_; (repeat' (first | exact Below.refl _ _ | assumption | refine Below.drew ?_ | refine below_drewN ?_ _ | refine Below.alloc ?_ (by first | exact Nat.le_refl _ | omega | (simp; done) | (simp; omega)) _)); rintro e w2 ⟨rfl, hb2⟩))
      go_ret
      exact ⟨rfl, (by refine Below.next ?_ hb2 (by first | (simp; done) | omega | (simp; omega)); repeat' (first | exact Below.refl _ _ | assumption | refine Below.drew ?_ | refine below_drewN ?_ _ | refine Below.alloc ?_ (by first | exact Nat.le_refl _ | omega | (simp; done) | (simp; omega)) _))⟩
  · have hv : proofFaultS k p = keyFault k := by unfold proofFaultS; rw [if_pos he]
    have b1 : (keyFault k == 0) = false := by simpa using he
    rw [hv]
    clear he hv
    go_enter Try.func81, Try.ntmps81
    go_wp2_with (go_at_call 92; refine (keyFault_ok _ D k dc).mono ?_; rintro e w1 ⟨rfl, rfl⟩)
    go_ret
    exact ⟨rfl, by repeat' (first | exact Below.refl _ _ | assumption | refine Below.drew ?_ | refine below_drewN ?_ _ | refine Below.alloc ?_ (by first | exact Nat.le_refl _ | omega | (simp; done) | (simp; omega)) _)⟩
end Go.Proofs.Ythhcdibimnifaaa
