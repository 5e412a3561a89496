/- What package forest's write comes to, case by case. Plain facts, no program. -/
import Derived.Test.YthhcdibimnifaaaWriteS
namespace Go.Proofs.Ythhcdibimnifaaa
open Go.RowKit
set_option linter.unusedVariables false
set_option linter.unusedSimpArgs false

section
variable {β : Type}
theorem filterT_cut {l : List (List UInt8 × β)} {k : List UInt8} {i : Nat} (hr : Rise (keys l)) (hi : i < l.length) (h : l[i].1 = k) : l.filter (fun x => !(x.1 == k)) = l.take i ++ l.drop (i + 1) := by
  have hne : ∀ j (hj : j < l.length), j ≠ i → (!(l[j].1 == k)) = true := by
    intro j hj hji
    have : l[j].1 ≠ k := fun e => hji (rise_inj hr (i := j) (j := i) (by simpa [keys] using hj) (by simpa [keys] using hi) (by simp [keys, e, h]))
    simpa using this
  have e1 : l = l.take i ++ l[i] :: l.drop (i + 1) := by rw [← List.drop_eq_getElem_cons hi, List.take_append_drop]
  have h0 : (!(l[i].1 == k)) = false := by simp [h]
  conv => lhs; rw [e1]
  rw [List.filter_append, List.filter_cons, if_neg (by simp [h0])]
  congr 1
  · refine List.filter_eq_self.2 fun p hp => ?_
    obtain ⟨j, hj, rfl⟩ := List.mem_iff_getElem.1 hp
    rw [List.length_take] at hj
    rw [List.getElem_take]
    exact hne j (by omega) (by omega)
  · refine List.filter_eq_self.2 fun p hp => ?_
    obtain ⟨j, hj, rfl⟩ := List.mem_iff_getElem.1 hp
    rw [List.length_drop] at hj
    rw [List.getElem_drop]
    exact hne _ (by omega) (by omega)
theorem filterT_none {l : List (List UInt8 × β)} {k : List UInt8} {i : Nat} (hr : Rise (keys l)) (hat : At (keys l) k i) (h : (keys l)[i]? ≠ some k) : l.filter (fun x => !(x.1 == k)) = l := by
  refine List.filter_eq_self.2 fun p hp => ?_
  have := find_not hr hat h
  rw [List.find?_eq_none] at this
  simpa using this p hp
end
/-- What write has for an error, behind the name's. -/
def progE (old : List Pr) (x : Wr) : Int := if x.flag = true ∧ (nextS old x).2 = 0 ∧ 0 < x.value.length then 4 else (nextS old x).2
theorem delS_err {l : List Pr} {k : List UInt8} (h : pairsFaultS l = 0) : (delS l k).2 = keyFault k := by
  have e : pkFault l k = keyFault k := by unfold pkFault; rw [if_neg (by simpa using h)]
  unfold delS
  rw [e]
  by_cases h2 : keyFault k = 0
  · simp [h2]
  · rw [if_pos h2]
theorem progE_bad {l : List Tn} {x : Wr} (hf : Fine l) (hn : nameFault x.name = 0) (h : progE (pairsOfS l x.name) x ≠ 0) : writeS l x = ([], progE (pairsOfS l x.name) x) := by
  have ho := hf.old x.name
  by_cases hfl : x.flag = true
  · have e1 : (nextS (pairsOfS l x.name) x).2 = keyFault x.key := by unfold nextS; rw [if_pos hfl]; exact delS_err ho
    have e2 : writeFaultS x = progE (pairsOfS l x.name) x := by
      unfold writeFaultS progE
      rw [if_neg (by simpa using hn), if_pos hfl, e1]
      by_cases h1 : keyFault x.key = 0
      · by_cases h2 : 0 < x.value.length
        · rw [if_neg (by simpa using h1), if_pos h2, if_pos ⟨hfl, h1, h2⟩]
        · rw [if_neg (by simpa using h1), if_neg h2, if_neg (fun h => h2 h.2.2), h1]
      · rw [if_pos h1, if_neg (fun h => h1 h.2.1)]
    unfold writeS
    rw [e2, if_pos h]
  · have hff : x.flag = false := by simpa using hfl
    have e0 : progE (pairsOfS l x.name) x = (nextS (pairsOfS l x.name) x).2 := by unfold progE; rw [if_neg (fun h => hfl h.1)]
    have e1 : nextS (pairsOfS l x.name) x = putS (pairsOfS l x.name) (x.key, x.value) := by unfold nextS; rw [if_neg hfl]
    have e3 : writeFaultS x = pairFaultS (x.key, x.value) := by unfold writeFaultS; rw [if_neg (by simpa using hn), if_neg hfl]
    have e4 : ppFault (pairsOfS l x.name) (x.key, x.value) = pairFaultS (x.key, x.value) := by unfold ppFault; rw [if_neg (by simpa using ho)]
    rw [e0] at h ⊢
    unfold writeS
    by_cases h1 : writeFaultS x = 0
    · rw [if_neg (by simpa using h1)]
      unfold writtenS
      dsimp only
      rw [if_pos h]
    · rw [if_pos h1]
      rw [e1]
      rw [e3] at h1 ⊢
      unfold putS
      rw [e4, if_pos h1]
theorem progE_good {l : List Tn} {x : Wr} (hf : Fine l) (hn : nameFault x.name = 0) (h : progE (pairsOfS l x.name) x = 0) :
    (nextS (pairsOfS l x.name) x).2 = 0 ∧ writeS l x = if 8 < (putEnd (x.name, (nextS (pairsOfS l x.name) x).1) ((nextS (pairsOfS l x.name) x).1.length == 0) l).length then ([], 11) else (putEnd (x.name, (nextS (pairsOfS l x.name) x).1) ((nextS (pairsOfS l x.name) x).1.length == 0) l, 0) := by
  have ho := hf.old x.name
  have hn2 : (nextS (pairsOfS l x.name) x).2 = 0 := by
    unfold progE at h
    split at h
    · cases h
    · exact h
  have hw : writeFaultS x = 0 := by
    unfold writeFaultS
    rw [if_neg (by simpa using hn)]
    by_cases hfl : x.flag = true
    · have e1 : (nextS (pairsOfS l x.name) x).2 = keyFault x.key := by unfold nextS; rw [if_pos hfl]; exact delS_err ho
      rw [if_pos hfl, if_neg (by rw [← e1]; simpa using hn2)]
      by_cases h2 : 0 < x.value.length
      · unfold progE at h
        rw [if_pos ⟨hfl, hn2, h2⟩] at h
        cases h
      · rw [if_neg h2]
    · rw [if_neg hfl]
      have e1 : nextS (pairsOfS l x.name) x = putS (pairsOfS l x.name) (x.key, x.value) := by unfold nextS; rw [if_neg hfl]
      rw [e1] at hn2
      unfold putS ppFault at hn2
      rw [if_neg (show ¬ pairsFaultS (pairsOfS l x.name) ≠ 0 by simpa using ho)] at hn2
      by_cases h1 : pairFaultS (x.key, x.value) = 0
      · exact h1
      · rw [if_pos h1] at hn2
        exact absurd hn2 h1
  refine ⟨hn2, ?_⟩
  unfold writeS
  rw [if_neg (by simpa using hw)]
  unfold writtenS
  dsimp only
  rw [if_neg (by simpa using hn2)]
theorem writeS_cut {l : List Tn} {x : Wr} {i : Nat} (hf : Fine l) (hn : nameFault x.name = 0) (h : progE (pairsOfS l x.name) x = 0) (hi : i < l.length) (hk : l[i].1 = x.name) (hz : (nextS (pairsOfS l x.name) x).1.length = 0) : writeS l x = (l.take i ++ l.drop (i + 1), 0) := by
  obtain ⟨g1, g2, g3⟩ := (ten_fault_iff l).1 hf
  rw [(progE_good hf hn h).2, show ((nextS (pairsOfS l x.name) x).1.length == 0) = true by simpa using hz, putEnd_true]
  rw [filterT_cut g3 hi hk, if_neg (by rw [List.length_append, List.length_take, List.length_drop]; omega)]
theorem writeS_same {l : List Tn} {x : Wr} {i : Nat} (hf : Fine l) (hn : nameFault x.name = 0) (h : progE (pairsOfS l x.name) x = 0) (hat : At (keys l) x.name i) (hk : (keys l)[i]? ≠ some x.name) (hz : (nextS (pairsOfS l x.name) x).1.length = 0) : writeS l x = (l, 0) := by
  obtain ⟨g1, g2, g3⟩ := (ten_fault_iff l).1 hf
  rw [(progE_good hf hn h).2, show ((nextS (pairsOfS l x.name) x).1.length == 0) = true by simpa using hz, putEnd_true]
  rw [filterT_none g3 hat hk, if_neg (by omega)]
theorem writeS_set {l : List Tn} {x : Wr} {i : Nat} (hf : Fine l) (hn : nameFault x.name = 0) (h : progE (pairsOfS l x.name) x = 0) (hi : i < l.length) (hk : l[i].1 = x.name) (hz : (nextS (pairsOfS l x.name) x).1.length ≠ 0) : writeS l x = (l.set i (x.name, (nextS (pairsOfS l x.name) x).1), 0) := by
  obtain ⟨g1, g2, g3⟩ := (ten_fault_iff l).1 hf
  rw [(progE_good hf hn h).2, show ((nextS (pairsOfS l x.name) x).1.length == 0) = false by simpa using hz, putEnd_false]
  rw [putAll_set g3 hi hk, if_neg (by rw [List.length_set]; omega)]
theorem writeS_full {l : List Tn} {x : Wr} {i : Nat} (hf : Fine l) (hn : nameFault x.name = 0) (h : progE (pairsOfS l x.name) x = 0) (hat : At (keys l) x.name i) (hk : (keys l)[i]? ≠ some x.name) (hz : (nextS (pairsOfS l x.name) x).1.length ≠ 0) (h8 : l.length = 8) : writeS l x = ([], 11) := by
  obtain ⟨g1, g2, g3⟩ := (ten_fault_iff l).1 hf
  rw [(progE_good hf hn h).2, show ((nextS (pairsOfS l x.name) x).1.length == 0) = false by simpa using hz, putEnd_false]
  rw [putAll_ins g3 hat hk, if_pos (by rw [ins_len]; omega)]
theorem writeS_ins {l : List Tn} {x : Wr} {i : Nat} (hf : Fine l) (hn : nameFault x.name = 0) (h : progE (pairsOfS l x.name) x = 0) (hat : At (keys l) x.name i) (hk : (keys l)[i]? ≠ some x.name) (hz : (nextS (pairsOfS l x.name) x).1.length ≠ 0) (h8 : l.length ≠ 8) : writeS l x = (ins l i (x.name, (nextS (pairsOfS l x.name) x).1), 0) := by
  obtain ⟨g1, g2, g3⟩ := (ten_fault_iff l).1 hf
  rw [(progE_good hf hn h).2, show ((nextS (pairsOfS l x.name) x).1.length == 0) = false by simpa using hz, putEnd_false]
  rw [putAll_ins g3 hat hk, if_neg (by rw [ins_len]; omega)]
theorem writeS_name {l : List Tn} {x : Wr} (hn : nameFault x.name ≠ 0) : writeS l x = ([], nameFault x.name) := by
  have e : writeFaultS x = nameFault x.name := by unfold writeFaultS; rw [if_pos hn]
  unfold writeS
  rw [e, if_pos hn]
end Go.Proofs.Ythhcdibimnifaaa
