/- Forest: Tenants: words for memory. Facts alone. Walks: tenants copied, by the references and by package forest. Walks: what is refused of tenants: forest.Check, ForestFault. Walks: a name looked for among tenants; the pairs of a tenant. Walks: forest.Get, forest.Range and what the references say of them; the laws ForestChecks, ForestGets, ForestRanges. The laws ForestChecks, ForestGets, ForestRanges: their walks. Walk: forest.own. Walk: sameTenants. The conditions of each are in its words. -/
import Derived.Test.YtjidppcfjkjjoaaDoorKBase
import Derived.Test.YtjidppcfjkjjoaaDoorKTrees
import Derived.Test.YtjidppcfjkjjoaaDoorKTreeW
namespace Go.Proofs.YtjidppcfjkjjoaaDoor
open Go.RowKit
set_option linter.unusedVariables false
set_option linter.unusedSimpArgs false

abbrev Tn := List UInt8 × List Pr
/-- The two cells of a tenant. -/
def TenR (S : Nat → Prop) (w : World) (cs : List Value) (t : Tn) : Prop :=
  ∃ A c B d, cs = [.slice A t.1.length c, .slice B t.2.length d] ∧ Bs S w A t.1 ∧ Ps S w B t.2 ∧ t.1.length ≤ big ∧ t.2.length * 48 ≤ 140737488355328 ∧ t.2.length ≤ d
theorem tenR_stays : Stays TenR :=
  ⟨fun _ _ _ _ _ hb ⟨A, c, B, d, h0, h1, h2, h3⟩ => ⟨A, c, B, d, h0, h1.bsame hb, h2.same pairR_stays hb, h3⟩, fun _ _ _ _ _ hb ⟨A, c, B, d, h0, h1, h2, h3⟩ => ⟨A, c, B, d, h0, h1.bless hb, h2.less pairR_stays hb, h3⟩⟩
abbrev Ts (S : Nat → Prop) (w : World) (A : Option Addr) (l : List Tn) : Prop := SL 2 TenR S w A l
abbrev RetTs (w : World) (l : List Tn) (e : Ending) (w' : World) : Prop := RetSL 2 TenR w l e w'
theorem tens_at {S : Nat → Prop} {w : World} {A : Option Addr} {l : List Tn} (h : Ts S w A l) {k : Nat} (hk : k < l.length) :
    ∃ b off K c V d, A = some ⟨b, off, none⟩ ∧ S b ∧ b < w.heap.size ∧ w.cell? ⟨b, off + k * 2, none⟩ = some (.slice K l[k].1.length c) ∧ w.cell? ⟨b, off + k * 2 + 1, none⟩ = some (.slice V l[k].2.length d) ∧
      Bs S w K l[k].1 ∧ Ps S w V l[k].2 ∧ l[k].1.length ≤ big ∧ l[k].2.length * 48 ≤ 140737488355328 ∧ l[k].2.length ≤ d := by
  obtain ⟨b, off, cs, e, h0, hlt, h1, h2, A', c, B', d, rfl, h3, h4, h5, h6⟩ := h.at hk
  exact ⟨b, off, A', c, B', d, e, h0, hlt, by simpa using h2 0 (by omega), by simpa using h2 1 (by omega), h3, h4, h5, h6⟩
end Go.Proofs.YtjidppcfjkjjoaaDoor
namespace Go.Proofs.YtjidppcfjkjjoaaDoor
open Go.RowKit
set_option linter.unusedVariables false
set_option linter.unusedSimpArgs false

/-- An append of one element as a step of a region that draws. -/
theorem step_snoc {P : Program} {α : Type} {R : (Nat → Prop) → World → List Value → α → Prop} (hR : Stays R) {S : Nat → Prop} (w : World) {ops : Array Oper} {o : Oper} {a : Act} {K : Act → World → Prop} {Q : Exit → Act → World → Prop} {E : Prop} (hgd : o.guard = none) (s x : Operand) (t : TypeId)
    (ho : o.op = .call { callee := .builtin .append, args := #[s, x], argTypes := #[t, t] })
    (base : Nat) (e : TypeId) (i : TypeInfo) (z : Value) (size bytes : Nat) (ht : P.underlying t = some (.slice e)) (hi : P.info? e = some i) (hz : i.zero = some z)
    (hsize : i.size = size) (hby : i.bytes = bytes) (hzs : z.cells.size = size) (hsz : 0 < size)
    (v : Value) (l : List α) (hs : a.eval s = v) (hown : Own size R S w base e v l)
    (A : Option Addr) (c : Nat) (cs : List Value) (hx : a.eval x = .slice A 1 c) (hl : cs.length = size) (hsrc : ∃ ad, A = some ad ∧ ∀ j u, cs[j]? = some u → w.cell? (ad.add j) = some u) (h1 : ∀ u ∈ cs, u.oneCell' = true)
    (h63 : l.length + 1 ≤ maxLen) (hbytes : (l.length + 1) * bytes ≤ 140737488355328) (hbase : base ≤ w.heap.size)
    (d : α) (hd : R (fun b => S b ∧ v.ownBlock ≠ some b) w cs d)
    (h : ∀ v' w', Own size R S w' base e v' (l ++ [d]) → Below base w w' → K (a.put o.dst v') w') : if Region.wanted o (yielded ops a.tmps) = true then Oper.wp P o a w K Q else E := by
  have hw : Region.wanted o (yielded ops a.tmps) = true := by simp [Region.wanted, hgd]
  rw [if_pos hw]
  obtain ⟨xs, hx1, hx2⟩ := hown
  exact wp_app w s x t ho base e i z size bytes ht hi hz hsize hby hzs hsz v l.length xs hs hx1 A 1 c cs hx (by omega) (fun _ => hsrc) h1 h63 hbytes hbase
    fun v' w' g1 g2 g3 => h v' w' (Own.snoc hR hx2 hx1 g1 g2 g3 hd hl) (own_below hx1 g2 hbase)
/-- .. and what it writes: the row alone. -/
theorem step_snocG {P : Program} {α : Type} {R : (Nat → Prop) → World → List Value → α → Prop} (hR : Stays R) {S : Nat → Prop} (w : World) {ops : Array Oper} {o : Oper} {a : Act} {K : Act → World → Prop} {Q : Exit → Act → World → Prop} {E : Prop} (hgd : o.guard = none) (s x : Operand) (t : TypeId)
    (ho : o.op = .call { callee := .builtin .append, args := #[s, x], argTypes := #[t, t] })
    (base : Nat) (e : TypeId) (i : TypeInfo) (z : Value) (size bytes : Nat) (ht : P.underlying t = some (.slice e)) (hi : P.info? e = some i) (hz : i.zero = some z)
    (hsize : i.size = size) (hby : i.bytes = bytes) (hzs : z.cells.size = size) (hsz : 0 < size)
    (v : Value) (l : List α) (hs : a.eval s = v) (hown : Own size R S w base e v l)
    (A : Option Addr) (c : Nat) (cs : List Value) (hx : a.eval x = .slice A 1 c) (hl : cs.length = size) (hsrc : ∃ ad, A = some ad ∧ ∀ j u, cs[j]? = some u → w.cell? (ad.add j) = some u) (h1 : ∀ u ∈ cs, u.oneCell' = true)
    (h63 : l.length + 1 ≤ maxLen) (hbytes : (l.length + 1) * bytes ≤ 140737488355328) (hbase : base ≤ w.heap.size)
    (d : α) (hd : R (fun b => S b ∧ v.ownBlock ≠ some b) w cs d)
    (h : ∀ v' w', Own size R S w' base e v' (l ++ [d]) → Below base w w' → w.grownBy w' v.ownBlock → K (a.put o.dst v') w') : if Region.wanted o (yielded ops a.tmps) = true then Oper.wp P o a w K Q else E := by
  have hw : Region.wanted o (yielded ops a.tmps) = true := by simp [Region.wanted, hgd]
  rw [if_pos hw]
  obtain ⟨xs, hx1, hx2⟩ := hown
  exact wp_app w s x t ho base e i z size bytes ht hi hz hsize hby hzs hsz v l.length xs hs hx1 A 1 c cs hx (by omega) (fun _ => hsrc) h1 h63 hbytes hbase
    fun v' w' g1 g2 g3 => h v' w' (Own.snoc hR hx2 hx1 g1 g2 g3 hd hl) (own_below hx1 g2 hbase) g2
/-- A new tenant's cells, as what they say behind more allocations. -/
theorem ten_fresh {n base : Nat} {w W : World} {v : Value} {A B : Option Addr} {t : Tn} {c d : Nat} (h1 : Bs (From n) w A t.1) (h2 : Ps (From n) w B t.2) (g1 : t.1.length ≤ big) (g2 : t.2.length * 48 ≤ 140737488355328) (g3 : t.2.length ≤ d) (hs : Same (From n) w W) (hb : base ≤ n) (hap : ∀ b, From n b → v.ownBlock ≠ some b) :
    TenR (fun b => From base b ∧ v.ownBlock ≠ some b) W [.slice A t.1.length c, .slice B t.2.length d] t :=
  ⟨A, c, B, d, rfl, (h1.bsame hs).bless fun b _ h => ⟨Nat.le_trans hb h, hap b h⟩, (h2.same pairR_stays hs).less pairR_stays fun b _ h => ⟨Nat.le_trans hb h, hap b h⟩, g1, g2, g3⟩
end Go.Proofs.YtjidppcfjkjjoaaDoor
namespace Go.Proofs.YtjidppcfjkjjoaaDoor
open Go.RowKit
set_option linter.unusedVariables false
set_option linter.unusedSimpArgs false

def tenOne (t : Tn) : Int := if nameFault t.1 ≠ 0 then nameFault t.1 else if t.2.length = 0 then 4 else pairsFaultS t.2
def tenAt (l : List Tn) (i : Nat) : Int :=
  if tenOne (l.getD i ([], [])) ≠ 0 then tenOne (l.getD i ([], [])) else if 0 < i ∧ lt (l.getD (i - 1) ([], [])).1 (l.getD i ([], [])).1 = false then 3 else 0
/-- What forest.Check and ForestFault answer. -/
def forestFaultS (l : List Tn) : Int := if 8 < l.length then 1 else firstBad (tenAt l) l.length 0
theorem tenAt_bad {l : List Tn} {k : Nat} (hk : k < l.length) (h : tenOne l[k] ≠ 0) : tenAt l k = tenOne l[k] := by
  simp [tenAt, hk, h]
theorem tenAt_order {l : List Tn} {k : Nat} (hk : k + 1 < l.length) (h : tenOne l[k + 1] = 0) (ho : lt l[k].1 l[k + 1].1 = false) : tenAt l (k + 1) = 3 := by
  have hk' : k < l.length := by omega
  simp [tenAt, hk, hk', h, ho]
theorem tenAt_ok {l : List Tn} {k : Nat} (hk : k + 1 < l.length) (h : tenOne l[k + 1] = 0) (ho : lt l[k].1 l[k + 1].1 = true) : tenAt l (k + 1) = 0 := by
  have hk' : k < l.length := by omega
  simp [tenAt, hk, hk', h, ho]
theorem tenAt_zero {l : List Tn} (hk : 0 < l.length) (h : tenOne l[0] = 0) : tenAt l 0 = 0 := by
  simp [tenAt, hk, h]
theorem tenOne_name {t : Tn} (h : nameFault t.1 ≠ 0) : tenOne t = nameFault t.1 := by simp [tenOne, h]
theorem tenOne_none {t : Tn} (h : nameFault t.1 = 0) (h' : t.2.length = 0) : tenOne t = 4 := by simp only [tenOne]; rw [if_neg (by simpa using h), if_pos h']
theorem tenOne_pairs {t : Tn} (h : nameFault t.1 = 0) (h' : t.2.length ≠ 0) : tenOne t = pairsFaultS t.2 := by simp only [tenOne]; rw [if_neg (by simpa using h), if_neg h']


end Go.Proofs.YtjidppcfjkjjoaaDoor
namespace Go.Proofs.YtjidppcfjkjjoaaDoor
open Go.RowKit
set_option linter.unusedVariables false
set_option linter.unusedSimpArgs false

/-- The pairs of a tenant; none, if there is no such. -/
def pairsOfS (l : List Tn) (k : List UInt8) : List Pr := ((l.find? (·.1 == k)).map (·.2)).getD []
/-- The call returns pairs that lie there already. -/
def RetPsOld (w : World) (l : List Pr) (e : Ending) (w' : World) : Prop :=
  ∃ A c, e = .returned (.slice A l.length c) ∧ Ps All w' A l ∧ l.length * 48 ≤ 140737488355328 ∧ l.length ≤ c ∧ Below w.heap.size w w'
theorem ten_fine {l : List Tn} (h : forestFaultS l = 0) : l.length ≤ 8 ∧ (∀ t ∈ l, tenOne t = 0) ∧ Rise (keys l) := by
  unfold forestFaultS at h
  split at h
  · simp at h
  · rename_i hl
    have hz := firstBad_zero _ _ h
    have hp : ∀ i (hi : i < l.length), tenOne l[i] = 0 := fun i hi => by
      have := hz i hi
      rw [Nat.zero_add] at this
      by_cases hb : tenOne l[i] = 0
      · exact hb
      · rw [tenAt_bad hi hb] at this; exact this
    refine ⟨by omega, fun p hp' => ?_, rise_of_steps fun i hi => ?_⟩
    · obtain ⟨i, hi, rfl⟩ := List.getElem_of_mem hp'
      exact hp i hi
    · have hi' : i + 1 < l.length := by simpa [keys] using hi
      simp only [keys_at]
      have := hz (i + 1) hi'
      rw [Nat.zero_add] at this
      rcases Bool.eq_false_or_eq_true (lt l[i].1 l[i + 1].1) with ho | ho
      · exact ho
      · rw [tenAt_order hi' (hp _ hi') ho] at this
        cases this
theorem find_at {β : Type} {l : List (List UInt8 × β)} {k : List UInt8} (hr : Rise (keys l)) {i : Nat} (hi : i < l.length) (h : l[i].1 = k) : l.find? (·.1 == k) = some l[i] := by
  rw [List.find?_eq_some_iff_getElem]
  refine ⟨by simpa using h, i, hi, rfl, fun j hj => ?_⟩
  have hjl : j < l.length := by omega
  simp only [Bool.not_eq_true', beq_eq_false_iff_ne]
  intro e
  have := rise_inj hr (i := j) (j := i) (by simpa [keys] using hjl) (by simpa [keys] using hi) (by rw [keys_at, keys_at, e, h])
  omega
theorem find_not {β : Type} {l : List (List UInt8 × β)} {k : List UInt8} {i : Nat} (hr : Rise (keys l)) (hat : At (keys l) k i) (h : (keys l)[i]? ≠ some k) : l.find? (·.1 == k) = none := by
  rw [List.find?_eq_none]
  intro p hp
  obtain ⟨j, hj, rfl⟩ := List.getElem_of_mem hp
  have hjk : j < (keys l).length := by simpa [keys] using hj
  simp only [beq_iff_eq]
  intro e
  have ek : (keys l)[j] = k := by rw [keys_at]; exact e
  rcases (by omega : j < i ∨ i ≤ j) with h1 | h1
  · have := hat.low j h1 hjk; rw [ek, lt_irrefl] at this; cases this
  · rcases (by omega : i = j ∨ i < j) with h2 | h2
    · subst h2
      exact h (by rw [List.getElem?_eq_getElem hjk, ek])
    · have h3 := hr i j h2 hjk
      rw [ek, hat.high i (Nat.le_refl _) (by omega)] at h3
      cases h3
theorem pairsOf_next {l : List Tn} {k : List UInt8} {m : Nat} (hm : m < l.length) (h : (l[m].1 == k) = false) : pairsOfS (l.drop m) k = pairsOfS (l.drop (m + 1)) k := by
  rw [List.drop_eq_getElem_cons hm]
  simp only [pairsOfS, List.find?_cons, h]
theorem pairsOf_here {l : List Tn} {k : List UInt8} {m : Nat} (hm : m < l.length) (h : (l[m].1 == k) = true) : pairsOfS (l.drop m) k = l[m].2 := by
  rw [List.drop_eq_getElem_cons hm]
  simp only [pairsOfS, List.find?_cons, h, Option.map_some, Option.getD_some]
end Go.Proofs.YtjidppcfjkjjoaaDoor
namespace Go.Proofs.YtjidppcfjkjjoaaDoor
open Go.RowKit
set_option linter.unusedVariables false
set_option linter.unusedSimpArgs false

def fnFault (l : List Tn) (n : List UInt8) : Int := if forestFaultS l ≠ 0 then forestFaultS l else nameFault n
theorem fn_fine {l : List Tn} {n : List UInt8} (h : fnFault l n = 0) : forestFaultS l = 0 ∧ nameFault n = 0 := by
  unfold fnFault at h
  split at h
  · rename_i h1; exact absurd h h1
  · rename_i h1; exact ⟨by simpa using h1, h⟩
def forestGetS (l : List Tn) (n k : List UInt8) : Finding × Int := if fnFault l n ≠ 0 then ((false, []), fnFault l n) else getS (pairsOfS l n) k
def forestRangeS (l : List Tn) (n k m : List UInt8) : List Pr × Int := if fnFault l n ≠ 0 then ([], fnFault l n) else rangeS (pairsOfS l n) k m

end Go.Proofs.YtjidppcfjkjjoaaDoor
namespace Go.Proofs.YtjidppcfjkjjoaaDoor
open Go.RowKit
set_option linter.unusedVariables false
set_option linter.unusedSimpArgs false

theorem forestRangeS_len (l : List Tn) (n k m : List UInt8) : (forestRangeS l n k m).1.length ≤ (pairsOfS l n).length := by
  unfold forestRangeS
  split
  · simp
  · unfold rangeS
    split
    · simp
    · exact List.length_filter_le _ _
theorem range_fine_len {l : List Tn} {n k m : List UInt8} : (forestRangeS l n k m).1.length ≤ 60 := by
  by_cases h1 : fnFault l n = 0
  · unfold forestRangeS rangeS
    rw [if_neg (by simpa using h1)]
    by_cases h2 : rangeFault (pairsOfS l n) k m = 0
    · rw [if_neg (by simpa using h2)]
      have : pairsFaultS (pairsOfS l n) = 0 := by
        unfold rangeFault at h2
        split at h2
        · rename_i h3; exact absurd h2 h3
        · rename_i h3; simpa using h3
      have h4 := (pairs_fine this).1
      have h5 := List.length_filter_le (inRange k m) (pairsOfS l n)
      show ((pairsOfS l n).filter (inRange k m)).length ≤ 60
      omega
    · rw [if_pos h2]; simp
  · unfold forestRangeS
    rw [if_pos h1]; simp
end Go.Proofs.YtjidppcfjkjjoaaDoor
namespace Go.Proofs.YtjidppcfjkjjoaaDoor
open Go.RowKit
set_option linter.unusedVariables false
set_option linter.unusedSimpArgs false

theorem Own.same_from {α : Type} {size : Nat} {R : (Nat → Prop) → World → List Value → α → Prop} {w w' : World} {base : Nat} {e : TypeId} {v : Value} {l : List α} (hR : Stays R) (h : Own size R (From base) w base e v l) (hb : Same (From base) w w') : Own size R (From base) w' base e v l := by
  obtain ⟨xs, h1, h2⟩ := h
  refine ⟨xs, ⟨h1.1, ?_⟩, fun i hi => hR.same _ _ _ _ _ ⟨hb.size, fun k hk hk' => hb.block k hk.1 hk'⟩ (h2 i hi)⟩
  rcases h1.2 with hn | ⟨g, cap, cur, hv, hb', hh, rest⟩
  · exact .inl hn
  · exact .inr ⟨g, cap, cur, hv, hb', by rw [hb.block g hb' (Array.getElem?_eq_some_iff.1 hh).1]; exact hh, rest⟩
end Go.Proofs.YtjidppcfjkjjoaaDoor
namespace Go.Proofs.YtjidppcfjkjjoaaDoor
open Go.RowKit
set_option linter.unusedVariables false
set_option linter.unusedSimpArgs false

end Go.Proofs.YtjidppcfjkjjoaaDoor
