/- Commit: Commits: words for memory; copied, held against each other. Walks: what is refused of a commit: tape.Check, CommitFault; the law TapeChecks. The conditions of each are in its words. -/
import Derived.Test.YtjgdeeabejoegaaDoorKForestW
namespace Go.Proofs.YtjgdeeabejoegaaDoor
open Go.RowKit
set_option linter.unusedVariables false
set_option linter.unusedSimpArgs false

abbrev Cm := Int × List Wr
/-- The two cells of a commit. -/
def CmR (S : Nat → Prop) (w : World) (cs : List Value) (c : Cm) : Prop :=
  ∃ A n, cs = [.int .i64 c.1, .slice A c.2.length n] ∧ Ws S w A c.2 ∧ c.2.length * 80 ≤ 140737488355328
theorem cmR_stays : Stays CmR :=
  ⟨fun _ _ _ _ _ hb ⟨A, n, h0, h1, h2⟩ => ⟨A, n, h0, h1.same wrR_stays hb, h2⟩, fun _ _ _ _ _ hb ⟨A, n, h0, h1, h2⟩ => ⟨A, n, h0, h1.less wrR_stays hb, h2⟩⟩
abbrev Cs (S : Nat → Prop) (w : World) (A : Option Addr) (l : List Cm) : Prop := SL 2 CmR S w A l
theorem cms_at {S : Nat → Prop} {w : World} {A : Option Addr} {l : List Cm} (h : Cs S w A l) {k : Nat} (hk : k < l.length) :
    ∃ g off B n, A = some ⟨g, off, none⟩ ∧ S g ∧ g < w.heap.size ∧ w.cell? ⟨g, off + k * 2, none⟩ = some (.int .i64 l[k].1) ∧ w.cell? ⟨g, off + k * 2 + 1, none⟩ = some (.slice B l[k].2.length n) ∧ Ws S w B l[k].2 ∧ l[k].2.length * 80 ≤ 140737488355328 := by
  obtain ⟨g, off, cs, e, h0, hlt, h1, h2, B, n, rfl, h3, h4⟩ := h.at hk
  exact ⟨g, off, B, n, e, h0, hlt, by simpa using h2 0 (by omega), by simpa using h2 1 (by omega), h3, h4⟩
/-- The call returns a commit of its own memory. -/
def RetCm (w : World) (c : Cm) (e : Ending) (w' : World) : Prop :=
  ∃ A n, e = .returned (.agg #[.int .i64 c.1, .slice A c.2.length n]) ∧ c.2.length ≤ n ∧ Ws (From w.heap.size) w' A c.2 ∧ Below w.heap.size w w'
/-- A new commit's cells, as what they say behind more allocations. -/
theorem cm_fresh {n base : Nat} {w W : World} {v : Value} {A : Option Addr} {x : Cm} {a : Nat} (h1 : Ws (From n) w A x.2) (g1 : x.2.length * 80 ≤ 140737488355328) (hs : Same (From n) w W) (hb : base ≤ n) (hap : ∀ b, From n b → v.ownBlock ≠ some b) :
    CmR (fun b => From base b ∧ v.ownBlock ≠ some b) W [.int .i64 x.1, .slice A x.2.length a] x :=
  ⟨A, a, rfl, (h1.same wrR_stays hs).less wrR_stays fun b _ h => ⟨Nat.le_trans hb h, hap b h⟩, g1⟩
end Go.Proofs.YtjgdeeabejoegaaDoor
namespace Go.Proofs.YtjgdeeabejoegaaDoor
open Go.RowKit
set_option linter.unusedVariables false
set_option linter.unusedSimpArgs false

theorem writeS_nil (x : Wr) : (writeS [] x).2 = writeFaultS x := by
  unfold writeS
  by_cases h1 : writeFaultS x = 0
  · rw [if_neg (by simpa using h1), h1]
    have hn : nameFault x.name = 0 := by
      unfold writeFaultS at h1
      split at h1
      · rename_i h'; exact absurd h1 h'
      · rename_i h'; simpa using h'
    unfold writeFaultS at h1
    rw [if_neg (by simpa using hn)] at h1
    have hp : pairsOfS [] x.name = [] := rfl
    unfold writtenS
    dsimp only
    rw [hp]
    by_cases hf : x.flag = true
    · rw [if_pos hf] at h1
      have hk : keyFault x.key = 0 := by
        split at h1
        · rename_i h'; exact absurd h1 h'
        · rename_i h'; simpa using h'
      have e : nextS [] x = ([], 0) := by
        unfold nextS
        rw [if_pos hf]
        unfold delS pkFault
        rw [if_neg (show ¬ pairsFaultS [] ≠ 0 by decide), if_neg (by simpa using hk)]
        rfl
      rw [e]
      rfl
    · rw [if_neg hf] at h1
      have e : nextS [] x = ([(x.key, x.value)], 0) := by
        unfold nextS
        rw [if_neg hf]
        unfold putS ppFault
        rw [if_neg (show ¬ pairsFaultS [] ≠ 0 by decide), if_neg (by simpa using h1)]
        rfl
      rw [e]
      rfl
  · rw [if_pos h1]
theorem appliedS_one (x : Wr) : (appliedS [] [x]).2 = writeFaultS x := by
  unfold appliedS
  rw [if_neg (show ¬ forestFaultS [] ≠ 0 by decide), if_neg (show ¬ 10 < [x].length by simp)]
  unfold applyAll
  rw [← writeS_nil]
  by_cases h : (writeS [] x).2 = 0
  · rw [if_neg (by simpa using h), h]
    rfl
  · rw [if_pos h]
def cwAt (ws : List Wr) (i : Nat) : Int := if 10 ≤ i then 1 else writeFaultS (ws.getD i ⟨[], [], false, []⟩)
/-- What tape.Check and CommitFault answer. -/
def commitFaultS (c : Cm) : Int := if ¬ (1 ≤ c.1 ∧ c.1 ≤ 1048576) then 2 else if c.2.length = 0 then 1 else firstBad (cwAt c.2) c.2.length 0
theorem cwAt_low {ws : List Wr} {k : Nat} (hk : k < ws.length) (h : k < 10) : cwAt ws k = writeFaultS ws[k] := by
  unfold cwAt
  rw [if_neg (by omega)]
  simp [hk]
theorem cwAt_high {ws : List Wr} {k : Nat} (h : 10 ≤ k) : cwAt ws k = 1 := by
  unfold cwAt
  rw [if_pos h]
/-- One write in a block of its own. -/
theorem one_wr {w W : World} {t : TypeId} {A B C : Option Addr} {x : Wr} {a b c : Nat} (g : Nat) (hh : W.heap[g]? = some (.cells #[.slice A x.name.length a, .slice B x.key.length b, .bool x.flag, .slice C x.value.length c] t (0, 0))) (hb : Below w.heap.size w W) (h1 : Bs All w A x.name) (h2 : Bs All w B x.key) (h3 : Bs All w C x.value) (g1 : x.name.length ≤ big) (g2 : x.key.length ≤ big) (g3 : x.value.length ≤ big) : Ws All W (some ⟨g, 0, none⟩) [x] := by
  intro _
  obtain ⟨k0, k1, k2, k3, _⟩ := box4 hh
  refine ⟨g, 0, rfl, trivial, (Array.getElem?_eq_some_iff.1 hh).1, fun i hi => ?_⟩
  obtain rfl : i = 0 := by simp at hi; exact hi
  refine ⟨[.slice A x.name.length a, .slice B x.key.length b, .bool x.flag, .slice C x.value.length c], rfl, fun j hj => ?_, ⟨A, a, B, b, C, c, rfl, h1.bbelow hb, h2.bbelow hb, h3.bbelow hb, g1, g2, g3⟩⟩
  match j, hj with
  | 0, _ => simpa using k0
  | 1, _ => simpa using k1
  | 2, _ => simpa using k2
  | 3, _ => simpa using k3
end Go.Proofs.YtjgdeeabejoegaaDoor
