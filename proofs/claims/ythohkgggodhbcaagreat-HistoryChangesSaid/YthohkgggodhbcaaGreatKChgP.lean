/- ChgP: What the reference's loops over two forests have put together so far, in plain words. No program. The conditions of each are in its words. -/
import Derived.Test.YthohkgggodhbcaaGreatKChgL
import Derived.Test.YthohkgggodhbcaaGreatKForest
namespace Go.Proofs.YthohkgggodhbcaaGreat
open Go.RowKit
set_option linter.unusedVariables false
set_option linter.unusedSimpArgs false

theorem insR_len {α : Type} {r : α → α → Bool} (w : α) : ∀ l : List α, (insR r l w).length = l.length + 1
  | [] => rfl
  | x :: l => by
    unfold insR
    split
    · simp
    · simp [insR_len w l]
/-- Writes of what is new or changed; of what is gone. -/
def P1 (a : List Tn) (xs : List (List UInt8 × Pr)) : List Wr := (xs.filter fun q => findVal (pairsOfS a q.1) q.2.1 != some q.2.2).map fun q => ⟨q.1, q.2.1, false, q.2.2⟩
def P2 (b : List Tn) (xs : List (List UInt8 × Pr)) : List Wr := (xs.filter fun q => (findVal (pairsOfS b q.1) q.2.1).isNone).map fun q => ⟨q.1, q.2.1, true, []⟩
theorem chgs_parts (a b : List Tn) : chgsR a b = P1 a (flatP b) ++ P2 b (flatP a) := rfl
def ins1 (a : List Tn) (xs : List (List UInt8 × Pr)) : List Wr := (P1 a xs).foldl (insR plLt) []
def ins2 (a b : List Tn) (xs : List (List UInt8 × Pr)) : List Wr := (P2 b xs).foldl (insR plLt) (ins1 a (flatP b))
section
variable {a b : List Tn} {xs : List (List UInt8 × Pr)} {n : List UInt8} {p : Pr}
theorem ins1_same (h : (findVal (pairsOfS a n) p.1 == some p.2) = true) : ins1 a (xs ++ [(n, p)]) = ins1 a xs := by
  unfold ins1 P1
  rw [List.filter_append, List.filter_cons_of_neg (by simpa using h)]
  simp
theorem ins1_put (h : (findVal (pairsOfS a n) p.1 == some p.2) = false) : ins1 a (xs ++ [(n, p)]) = insR plLt (ins1 a xs) ⟨n, p.1, false, p.2⟩ := by
  unfold ins1 P1
  rw [List.filter_append, List.filter_cons_of_pos (by simpa using h)]
  simp [List.foldl_append]
theorem ins2_same (h : (findVal (pairsOfS b n) p.1).isSome = true) : ins2 a b (xs ++ [(n, p)]) = ins2 a b xs := by
  unfold ins2 P2
  rw [List.filter_append, List.filter_cons_of_neg (by
    intro e
    dsimp only at e
    rw [Option.isNone_iff_eq_none] at e
    rw [e] at h
    cases h)]
  simp
theorem ins2_put (h : (findVal (pairsOfS b n) p.1).isSome = false) : ins2 a b (xs ++ [(n, p)]) = insR plLt (ins2 a b xs) ⟨n, p.1, true, []⟩ := by
  unfold ins2 P2
  rw [List.filter_append, List.filter_cons_of_pos (by
    dsimp only
    rw [Option.isNone_iff_eq_none]
    simpa using h)]
  simp [List.foldl_append]
end
theorem insAll_len : ∀ (ws acc : List Wr), (ws.foldl (insR plLt) acc).length = acc.length + ws.length
  | [], acc => rfl
  | w :: ws, acc => by rw [List.foldl_cons, insAll_len ws, insR_len, List.length_cons]; omega
theorem ins1_len (a : List Tn) (xs : List (List UInt8 × Pr)) : (ins1 a xs).length ≤ xs.length := by
  unfold ins1 P1
  rw [insAll_len, List.length_map]
  have := List.length_filter_le (fun q : List UInt8 × Pr => findVal (pairsOfS a q.1) q.2.1 != some q.2.2) xs
  simp only [List.length_nil]
  omega
theorem ins2_len (a b : List Tn) (xs : List (List UInt8 × Pr)) : (ins2 a b xs).length ≤ (flatP b).length + xs.length := by
  unfold ins2 P2
  rw [insAll_len, List.length_map]
  have h1 := ins1_len a (flatP b)
  have h2 := List.length_filter_le (fun q : List UInt8 × Pr => (findVal (pairsOfS b q.1) q.2.1).isNone) xs
  omega
theorem ins2_zero (a b : List Tn) : ins2 a b [] = ins1 a (flatP b) := rfl
theorem ins2_all (a b : List Tn) : ins2 a b (flatP a) = (chgsR a b).foldl (insR plLt) [] := by
  rw [chgs_parts, List.foldl_append]
  rfl
/-- So many pairs of one tenant. -/
def upP (t : Tn) (k : Nat) : List (List UInt8 × Pr) := (t.2.take k).map fun p => (t.1, p)
theorem upP_zero (t : Tn) : upP t 0 = [] := rfl
theorem upP_next {t : Tn} {k : Nat} (h : k < t.2.length) : upP t (k + 1) = upP t k ++ [(t.1, t.2[k])] := by
  unfold upP
  rw [take_snoc _ _ h, List.map_append]
  rfl
theorem upP_len (t : Tn) (k : Nat) : (upP t k).length ≤ t.2.length := by
  unfold upP
  simp
  omega
theorem flat_next {f : List Tn} {i : Nat} (h : i < f.length) : flatP (f.take (i + 1)) = flatP (f.take i) ++ upP f[i] f[i].2.length := by
  unfold flatP upP
  rw [take_snoc _ _ h, List.flatMap_append, List.take_length]
  simp
theorem flat_all (f : List Tn) : flatP (f.take f.length) = flatP f := by rw [List.take_length]
theorem flatP_len {f : List Tn} (h : ∀ t ∈ f, t.2.length ≤ 60) : (flatP f).length ≤ f.length * 60 := by
  induction f with
  | nil => simp [flatP]
  | cons t f ih =>
    have h1 := ih fun x hx => h x (by simp [hx])
    have h2 := h t (by simp)
    unfold flatP at h1 ⊢
    rw [List.flatMap_cons, List.length_append, List.length_map, List.length_cons]
    omega
theorem fine_pairs {f : List Tn} (h : Fine f) : f.length ≤ 8 ∧ ∀ t ∈ f, t.2.length ≤ 60 := by
  obtain ⟨h1, h2, _⟩ := (ten_fault_iff f).1 h
  exact ⟨h1, fun t ht => ((pairs_fault_iff _).1 (tenOne_fine.1 (h2 t ht)).2.2).1⟩
theorem fine_flat {f : List Tn} (h : Fine f) (i : Nat) : (flatP (f.take i)).length ≤ 480 := by
  obtain ⟨h1, h2⟩ := fine_pairs h
  have := flatP_len (f := f.take i) fun t ht => h2 t (List.mem_of_mem_take ht)
  rw [List.length_take] at this
  omega
/-- A place, as places lays it. -/
def bareW (q : List UInt8 × Pr) : Wr := ⟨q.1, q.2.1, false, []⟩
theorem places_parts (a b : List Tn) : placesS a b = (flatP a).map bareW ++ (flatP b).map bareW := by
  unfold placesS
  rw [List.map_append]
  rfl
theorem bare_all (a b : List Tn) : ∀ x ∈ placesS a b, Bare x := by
  intro x hx
  obtain ⟨q, _, rfl⟩ := List.mem_map.1 hx
  exact ⟨rfl, rfl⟩
/-- The places, sorted and each once, are those of the two forests, and rise. -/
theorem comp_places {a b : List Tn} {l : List Wr} (hp : l.Perm (placesS a b)) (hs : l.Pairwise fun x y => plLt y x = false) : (compS l).Pairwise (fun x y => plLt x y = true) ∧ ∀ x, x ∈ compS l ↔ x ∈ placesS a b := by
  obtain ⟨h1, h2⟩ := comp_rise hs fun x hx => bare_all a b x (hp.mem_iff.1 hx)
  exact ⟨h1, fun x => (h2 x).trans hp.mem_iff⟩
theorem comp_len : ∀ l : List Wr, (compS l).length ≤ l.length
  | [] => Nat.le_refl _
  | p :: l => by
    have h : ∀ (l : List Wr) (p : Wr), (compFrom p l).length ≤ l.length := by
      intro l
      induction l with
      | nil => intro p; exact Nat.le_refl _
      | cons y l ih =>
        intro p
        unfold compFrom
        split
        · exact Nat.le_succ_of_le (ih y)
        · simpa using ih y
    simpa [compS] using h l p
/-- The changes so far. -/
theorem chg_next {a b : List Tn} {l : List Wr} {k : Nat} (h : k < l.length) : (l.take (k + 1)).filterMap (chgOne a b) = (l.take k).filterMap (chgOne a b) ++ (chgOne a b l[k]).toList := by
  rw [take_snoc _ _ h, List.filterMap_append]
  cases hc : chgOne a b l[k] <;> simp [hc]
theorem chg_len (a b : List Tn) (l : List Wr) (k : Nat) : ((l.take k).filterMap (chgOne a b)).length ≤ l.length := by
  have h1 := List.length_filterMap_le (chgOne a b) (l.take k)
  rw [List.length_take] at h1
  omega
theorem place_fine {a b : List Tn} (ha : Fine a) (hb : Fine b) {x : Wr} (h : x ∈ placesS a b) : nameFault x.name = 0 ∧ keyFault x.key = 0 := by
  have one : ∀ {f : List Tn}, Fine f → ∀ {q : List UInt8 × Pr}, q ∈ flatP f → nameFault q.1 = 0 ∧ keyFault q.2.1 = 0 := fun {f} hf {q} hq => by
    obtain ⟨t, ht, hq⟩ := List.mem_flatMap.1 hq
    obtain ⟨p, hp, rfl⟩ := List.mem_map.1 hq
    obtain ⟨g1, _, g3⟩ := tenOne_fine.1 (((ten_fault_iff f).1 hf).2.1 t ht)
    refine ⟨g1, ?_⟩
    have := ((pairs_fault_iff _).1 g3).2.1 p hp
    unfold pairFaultS at this
    split at this
    · cases this
    · exact this
  obtain ⟨q, hq, rfl⟩ := List.mem_map.1 h
  rcases List.mem_append.1 hq with hq | hq
  · exact one ha hq
  · exact one hb hq
/-- What forest.Get finds at a place. -/
theorem tell_get {f : List Tn} (hf : Fine f) {n k : List UInt8} (hn : nameFault n = 0) (hk : keyFault k = 0) : forestGetS f n k = (tellS f n k, 0) := by
  have h1 : fnFault f n = 0 := by unfold fnFault; rw [if_neg (by simpa using (show forestFaultS f = 0 from hf))]; exact hn
  unfold forestGetS getS tellS
  rw [if_neg (by simpa using h1), if_neg (by simpa using hf.old n), if_neg (by simpa using hk)]
  cases findVal (pairsOfS f n) k <;> rfl
end Go.Proofs.YthohkgggodhbcaaGreat
