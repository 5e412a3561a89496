/- What a write comes to; what stays fine behind one. Plain facts, no program. -/
import Derived.Test.YthhcdibimnifaaaPutS
import Derived.Test.YthhcdibimnifaaaTreeDel
import Derived.Test.YthhcdibimnifaaaFFind
import Derived.Test.YthhcdibimnifaaaWr
namespace Go.Proofs.Ythhcdibimnifaaa
open Go.RowKit
set_option linter.unusedVariables false
set_option linter.unusedSimpArgs false

theorem rise_iff (ks : List (List UInt8)) : Rise ks ↔ ks.Pairwise (fun a b => lt a b = true) := by
  rw [List.pairwise_iff_getElem]
  exact ⟨fun h i j _ hj hij => h i j hij hj, fun h i j hij hj => h i j (by omega) hj hij⟩
theorem firstBad_none {f : Nat → Int} : ∀ (n k : Nat), (∀ i, i < n → f (k + i) = 0) → firstBad f n k = 0
  | 0, _, _ => rfl
  | n + 1, k, h => by
    unfold firstBad
    rw [if_neg (by have := h 0 (by omega); simpa using this)]
    exact firstBad_none n (k + 1) fun i hi => by have := h (i + 1) (by omega); rwa [show k + (i + 1) = k + 1 + i by omega] at this
theorem pairs_fault_iff (l : List Pr) : pairsFaultS l = 0 ↔ l.length ≤ 60 ∧ (∀ p ∈ l, pairFaultS p = 0) ∧ Rise (keys l) := by
  refine ⟨fun h => pairs_fine h, fun ⟨h1, h2, h3⟩ => ?_⟩
  unfold pairsFaultS
  rw [if_neg (by omega)]
  refine firstBad_none _ _ fun i hi => ?_
  rw [Nat.zero_add]
  have hp : pairFaultS l[i] = 0 := h2 _ (List.getElem_mem hi)
  rcases i with _ | i
  · exact pairAt_zero hi hp
  · refine pairAt_ok hi hp ?_
    have := h3 i (i + 1) (by omega) (by simpa [keys] using hi)
    rwa [keys_at, keys_at] at this
theorem ten_fault_iff (l : List Tn) : forestFaultS l = 0 ↔ l.length ≤ 8 ∧ (∀ t ∈ l, tenOne t = 0) ∧ Rise (keys l) := by
  refine ⟨fun h => ten_fine h, fun ⟨h1, h2, h3⟩ => ?_⟩
  unfold forestFaultS
  rw [if_neg (by omega)]
  refine firstBad_none _ _ fun i hi => ?_
  rw [Nat.zero_add]
  have hp : tenOne l[i] = 0 := h2 _ (List.getElem_mem hi)
  rcases i with _ | i
  · exact tenAt_zero hi hp
  · refine tenAt_ok hi hp ?_
    have := h3 i (i + 1) (by omega) (by simpa [keys] using hi)
    rwa [keys_at, keys_at] at this
theorem tenOne_fine {t : Tn} : tenOne t = 0 ↔ nameFault t.1 = 0 ∧ t.2.length ≠ 0 ∧ pairsFaultS t.2 = 0 := by
  unfold tenOne
  by_cases h1 : nameFault t.1 = 0
  · by_cases h2 : t.2.length = 0
    · simp [h1, h2]
    · simp [h1, h2]
  · simp [h1]
section
variable {β : Type}
theorem keys_set {l : List (List UInt8 × β)} {i : Nat} {p : List UInt8 × β} (hi : i < l.length) (h : l[i].1 = p.1) : keys (l.set i p) = keys l := by
  unfold keys
  rw [List.map_set, ← h]
  have : (l.map (·.1))[i]'(by simpa using hi) = l[i].1 := by simp
  rw [← this, List.set_getElem_self]
theorem rise_ins {l : List (List UInt8 × β)} {i : Nat} {p : List UInt8 × β} (hr : Rise (keys l)) (hat : At (keys l) p.1 i) (hk : (keys l)[i]? ≠ some p.1) : Rise (keys (ins l i p)) := by
  rw [rise_iff] at *
  have e : keys (ins l i p) = (keys l).take i ++ p.1 :: (keys l).drop i := by simp [keys, ins, List.map_take, List.map_drop]
  rw [e, List.pairwise_append, List.pairwise_cons]
  have hsp : ((keys l).take i ++ (keys l).drop i).Pairwise (fun a b => lt a b = true) := by rw [List.take_append_drop]; exact hr
  rw [List.pairwise_append] at hsp
  have hlow : ∀ a ∈ (keys l).take i, lt a p.1 = true := fun a ha => by
    obtain ⟨j, hj, rfl⟩ := List.mem_iff_getElem.1 ha
    rw [List.length_take] at hj
    rw [List.getElem_take]
    exact hat.low j (by omega) (by omega)
  have hhigh : ∀ a ∈ (keys l).drop i, lt p.1 a = true := fun a ha => by
    obtain ⟨j, hj, rfl⟩ := List.mem_iff_getElem.1 ha
    rw [List.length_drop] at hj
    rw [List.getElem_drop]
    have h1 := hat.high (i + j) (by omega) (by omega)
    rcases Bool.eq_false_or_eq_true (lt p.1 (keys l)[i + j]) with h2 | h2
    · exact h2
    · exfalso
      have h3 := lt_tri _ _ h1 h2
      rcases Nat.eq_zero_or_pos j with rfl | hj0
      · exact hk (by rw [List.getElem?_eq_getElem (by omega)]; exact congrArg some h3)
      · have hr' : Rise (keys l) := by rw [rise_iff]; exact hr
        have h4 := hr' i (i + j) (by omega) (by omega)
        rw [h3, hat.high i (Nat.le_refl _) (by omega)] at h4
        cases h4
  refine ⟨hsp.1, ⟨hhigh, hsp.2.1⟩, fun a ha b hb => ?_⟩
  rcases List.mem_cons.1 hb with rfl | hb
  · exact hlow a ha
  · exact hsp.2.2 a ha b hb
theorem rise_filter {l : List (List UInt8 × β)} (hr : Rise (keys l)) (q : List UInt8 × β → Bool) : Rise (keys (l.filter q)) := by
  rw [rise_iff] at *
  exact hr.sublist ((List.filter_sublist).map _)
theorem mem_set {l : List (List UInt8 × β)} {i : Nat} {p x : List UInt8 × β} (h : x ∈ l.set i p) : x ∈ l ∨ x = p := List.mem_or_eq_of_mem_set h
theorem mem_ins {l : List (List UInt8 × β)} {i : Nat} {p x : List UInt8 × β} (h : x ∈ ins l i p) : x ∈ l ∨ x = p := by
  unfold ins at h
  rcases List.mem_append.1 h with h | h
  · exact .inl (List.mem_of_mem_take h)
  · rcases List.mem_cons.1 h with h | h
    · exact .inr h
    · exact .inl (List.mem_of_mem_drop h)
/-- Where a key is among keys that rise. -/
theorem at_exists (l : List (List UInt8 × β)) (hr : Rise (keys l)) (k : List UInt8) : ∃ i, At (keys l) k i := by
  have h : ∀ n, n ≤ (keys l).length → (∃ i, i ≤ n ∧ (∀ j (_ : j < i) (h : j < (keys l).length), lt (keys l)[j] k = true) ∧ (∀ j (_ : i ≤ j) (_ : j < n) (h : j < (keys l).length), lt (keys l)[j] k = false)) := by
    intro n
    induction n with
    | zero => exact fun _ => ⟨0, Nat.le_refl _, fun j h => absurd h (by omega), fun j _ h => absurd h (by omega)⟩
    | succ n ih =>
      intro hn
      obtain ⟨i, h1, h2, h3⟩ := ih (by omega)
      by_cases he : i = n
      · subst he
        rcases Bool.eq_false_or_eq_true (lt ((keys l)[i]'(by omega)) k) with ho | ho
        · exact ⟨i + 1, Nat.le_refl _, low_of hr (by omega) ho, fun j h h' => absurd h (by omega)⟩
        · refine ⟨i, by omega, h2, fun j h h' hj => ?_⟩
          obtain rfl : j = i := by omega
          exact ho
      · refine ⟨i, by omega, h2, fun j h h' hj => ?_⟩
        rcases Nat.lt_or_ge j n with hjn | hjn
        · exact h3 j h hjn hj
        · obtain rfl : j = n := by omega
          exact high_of hr (m := i) (by omega) (h3 i (Nat.le_refl _) (by omega) (by omega)) j (by omega) hj
  obtain ⟨i, h1, h2, h3⟩ := h (keys l).length (Nat.le_refl _)
  exact ⟨i, h1, h2, fun j h hj => h3 j h hj hj⟩
/-- What a pair put among others is: set, or put in between. -/
theorem putAll_cases (p : List UInt8 × β) (l : List (List UInt8 × β)) (hr : Rise (keys l)) : (∃ i, ∃ h : i < l.length, l[i].1 = p.1 ∧ putAll p l = l.set i p) ∨ (∃ i, At (keys l) p.1 i ∧ (keys l)[i]? ≠ some p.1 ∧ putAll p l = ins l i p) := by
  obtain ⟨i, hat⟩ := at_exists l hr p.1
  by_cases hf : (keys l)[i]? = some p.1
  · have hik : i < (keys l).length := (List.getElem?_eq_some_iff.1 hf).1
    have hil : i < l.length := by simpa [keys] using hik
    have hli : l[i].1 = p.1 := by have := (List.getElem?_eq_some_iff.1 hf).2; rwa [keys_at] at this
    exact .inl ⟨i, hil, hli, putAll_set hr hil hli⟩
  · exact .inr ⟨i, hat, hf, putAll_ins hr hat hf⟩
theorem putAll_rise (p : List UInt8 × β) (l : List (List UInt8 × β)) (hr : Rise (keys l)) : Rise (keys (putAll p l)) ∧ (∀ x ∈ putAll p l, x ∈ l ∨ x = p) := by
  rcases putAll_cases p l hr with ⟨i, h, hk, e⟩ | ⟨i, hat, hk, e⟩
  · rw [e, keys_set h hk]
    exact ⟨hr, fun x hx => mem_set hx⟩
  · rw [e]
    exact ⟨rise_ins hr hat hk, fun x hx => mem_ins hx⟩
end
theorem putS_fine {l : List Pr} {p : Pr} (h : (putS l p).2 = 0) : pairsFaultS (putS l p).1 = 0 ∧ (putS l p).1 = putAll p l := by
  unfold putS at *
  by_cases h1 : ppFault l p = 0
  · rw [if_neg (by simpa using h1)] at h ⊢
    by_cases h2 : 60 < (putAll p l).length
    · rw [if_pos h2] at h; cases h
    · rw [if_neg h2]
      have hf := pp_fine h1
      obtain ⟨g1, g2, g3⟩ := (pairs_fault_iff l).1 hf.1
      have hr := putAll_rise p l g3
      refine ⟨(pairs_fault_iff _).2 ⟨by show (putAll p l).length ≤ 60; omega, fun x hx => ?_, hr.1⟩, rfl⟩
      rcases hr.2 x hx with h' | rfl
      · exact g2 x h'
      · exact hf.2
  · rw [if_pos h1] at h; exact absurd h h1
theorem delS_fine {l : List Pr} {k : List UInt8} (h : (delS l k).2 = 0) : pairsFaultS (delS l k).1 = 0 := by
  unfold delS at *
  by_cases h1 : pkFault l k = 0
  · rw [if_neg (by simpa using h1)]
    obtain ⟨g1, g2, g3⟩ := (pairs_fault_iff l).1 (pk_fine h1).1
    refine (pairs_fault_iff _).2 ⟨Nat.le_trans (List.length_filter_le _ _) g1, fun x hx => g2 x ((List.mem_filter.1 hx).1), rise_filter g3 _⟩
  · rw [if_pos h1] at h; exact absurd h h1

/-- The pairs of a tenant behind a write. -/
def nextS (old : List Pr) (x : Wr) : List Pr × Int := if x.flag = true then delS old x.key else putS old (x.key, x.value)
def putFrom {β : Type} (p : List UInt8 × β) (d : Bool) (l : List (List UInt8 × β)) : List (List UInt8 × β) × Bool := l.foldl (putStep p) ([], d)
def putEnd {β : Type} (p : List UInt8 × β) (d : Bool) (l : List (List UInt8 × β)) : List (List UInt8 × β) := if (putFrom p d l).2 then (putFrom p d l).1 else (putFrom p d l).1 ++ [p]
def writtenS (l : List Tn) (x : Wr) : List Tn × Int :=
  let n := nextS (pairsOfS l x.name) x
  if n.2 ≠ 0 then ([], n.2) else if 8 < (putEnd (x.name, n.1) (n.1.length == 0) l).length then ([], 11) else (putEnd (x.name, n.1) (n.1.length == 0) l, 0)
def writeS (l : List Tn) (x : Wr) : List Tn × Int := if writeFaultS x ≠ 0 then ([], writeFaultS x) else writtenS l x
theorem nextS_len (old : List Pr) (x : Wr) : (nextS old x).1.length ≤ 60 := by
  unfold nextS
  split
  · unfold delS
    split
    · simp
    · rename_i h
      have := (pairs_fine (pk_fine (by simpa using h)).1).1
      exact Nat.le_trans (List.length_filter_le _ _) this
  · unfold putS
    split
    · simp
    · split
      · simp
      · rename_i h; show (putAll _ _).length ≤ 60; omega
theorem putFrom_snoc {β : Type} {p : List UInt8 × β} {d : Bool} {l : List (List UInt8 × β)} {k : Nat} (h : k < l.length) : putFrom p d (l.take (k + 1)) = putStep p (putFrom p d (l.take k)) l[k] := by
  unfold putFrom
  rw [take_snoc l k h, List.foldl_append]
  rfl
theorem putFrom_len {β : Type} (p : List UInt8 × β) (d : Bool) (l : List (List UInt8 × β)) : ∀ k, k ≤ l.length → (putFrom p d (l.take k)).1.length ≤ 2 * k
  | 0, _ => by simp [putFrom]
  | k + 1, h => by
    rw [putFrom_snoc (by omega)]
    have := putStep_len p (putFrom p d (l.take k)) l[k]
    have := putFrom_len p d l k (by omega)
    omega
theorem fold_true {β : Type} {p : List UInt8 × β} : ∀ (xs acc : List (List UInt8 × β)), xs.foldl (putStep p) (acc, true) = (acc ++ xs.filter (fun x => !(x.1 == p.1)), true)
  | [], acc => by simp
  | x :: xs, acc => by
    rcases Bool.eq_false_or_eq_true (x.1 == p.1) with h | h
    · rw [List.foldl_cons, show putStep p (acc, true) x = (acc, true) by simp [putStep, h], fold_true xs acc, List.filter_cons, h]
      simp
    · rw [List.foldl_cons, show putStep p (acc, true) x = (acc ++ [x], true) by simp [putStep, h], fold_true xs (acc ++ [x]), List.filter_cons, h]
      simp
theorem putEnd_true {β : Type} (p : List UInt8 × β) (l : List (List UInt8 × β)) : putEnd p true l = l.filter (fun x => !(x.1 == p.1)) := by
  simp [putEnd, putFrom, fold_true]
theorem putEnd_false {β : Type} (p : List UInt8 × β) (l : List (List UInt8 × β)) : putEnd p false l = putAll p l := rfl
/-- What a forest must be to be written to. -/
def Fine (l : List Tn) : Prop := forestFaultS l = 0
theorem Fine.old {l : List Tn} (h : Fine l) (n : List UInt8) : pairsFaultS (pairsOfS l n) = 0 := by
  unfold pairsOfS
  cases hf : l.find? (·.1 == n) with
  | none => rfl
  | some t =>
    have ht := ((ten_fault_iff l).1 h).2.1 t (List.mem_of_find?_eq_some hf)
    exact (tenOne_fine.1 ht).2.2
theorem writeS_fine {l : List Tn} {x : Wr} (h : Fine l) (hz : (writeS l x).2 = 0) : Fine (writeS l x).1 := by
  unfold writeS at *
  by_cases h1 : writeFaultS x = 0
  · rw [if_neg (by simpa using h1)] at hz ⊢
    unfold writtenS at *
    dsimp only at *
    by_cases h2 : (nextS (pairsOfS l x.name) x).2 = 0
    · rw [if_neg (by simpa using h2)] at hz ⊢
      by_cases h3 : 8 < (putEnd (x.name, (nextS (pairsOfS l x.name) x).1) ((nextS (pairsOfS l x.name) x).1.length == 0) l).length
      · rw [if_pos h3] at hz; cases hz
      · rw [if_neg h3]
        obtain ⟨g1, g2, g3⟩ := (ten_fault_iff l).1 h
        have hnf : nameFault x.name = 0 := by
          unfold writeFaultS at h1
          split at h1
          · rename_i h'; exact absurd h1 h'
          · rename_i h'; simpa using h'
        refine (ten_fault_iff _).2 ⟨by show (putEnd _ _ l).length ≤ 8; omega, ?_⟩
        rcases Bool.eq_false_or_eq_true ((nextS (pairsOfS l x.name) x).1.length == 0) with he | he
        · rw [he, putEnd_true]
          exact ⟨fun t ht => g2 t ((List.mem_filter.1 ht).1), rise_filter g3 _⟩
        · rw [he, putEnd_false]
          have hr := putAll_rise (x.name, (nextS (pairsOfS l x.name) x).1) l g3
          refine ⟨fun t ht => ?_, hr.1⟩
          rcases hr.2 t ht with h' | rfl
          · exact g2 t h'
          · refine tenOne_fine.2 ⟨hnf, by simpa using he, ?_⟩
            unfold nextS at h2 ⊢
            split
            · rename_i hg; rw [if_pos hg] at h2; exact delS_fine h2
            · rename_i hg; rw [if_neg hg] at h2; exact (putS_fine h2).1
    · rw [if_pos h2] at hz; exact absurd hz h2
  · rw [if_pos h1] at hz; exact absurd hz h1
end Go.Proofs.Ythhcdibimnifaaa
