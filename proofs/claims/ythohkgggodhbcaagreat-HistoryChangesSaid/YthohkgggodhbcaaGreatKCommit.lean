/- Commit: Commits: words for memory; copied, held against each other. Walks: what is refused of a commit: tape.Check, CommitFault; the law TapeChecks. Walks: history.Check, history.Fold and what the references say of them; their laws. Walks: history.Check, history.Fold; the laws HistoryChecks and HistoryFolds. The conditions of each are in its words. -/
import Derived.Test.YthohkgggodhbcaaGreatKForestW
import Derived.Test.YthohkgggodhbcaaGreatKForestX
import Derived.Test.YthohkgggodhbcaaGreatKForest
namespace Go.Proofs.YthohkgggodhbcaaGreat
open Go.RowKit
set_option linter.unusedVariables false
set_option linter.unusedSimpArgs false

abbrev Cm := Int × List Wr
/-- The two cells of a commit. -/
def CmR (S : Nat → Prop) (w : World) (cs : List Value) (c : Cm) : Prop :=
  ∃ A n, cs = [.int .i64 c.1, .slice A c.2.length n] ∧ Ws S w A c.2 ∧ c.2.length * 80 ≤ 140737488355328
theorem cmR_stays : Stays CmR :=
  ⟨fun _ _ _ _ _ hb ⟨A, n, h0, h1, h2⟩ => ⟨A, n, h0, h1.same wrR_stays hb, h2⟩, fun _ _ _ _ _ hb ⟨A, n, h0, h1, h2⟩ => ⟨A, n, h0, h1.less wrR_stays hb, h2⟩⟩
theorem info_cm : (Tryz.prog.info? 32).map (fun i => (i.zero, i.size, i.bytes)) = some (some (.agg #[.int .i64 0, .slice none 0 0]), 2, 32) := by kernel_rfl
abbrev Cs (S : Nat → Prop) (w : World) (A : Option Addr) (l : List Cm) : Prop := SL 2 CmR S w A l
theorem cms_at {S : Nat → Prop} {w : World} {A : Option Addr} {l : List Cm} (h : Cs S w A l) {k : Nat} (hk : k < l.length) :
    ∃ g off B n, A = some ⟨g, off, none⟩ ∧ S g ∧ g < w.heap.size ∧ w.cell? ⟨g, off + k * 2, none⟩ = some (.int .i64 l[k].1) ∧ w.cell? ⟨g, off + k * 2 + 1, none⟩ = some (.slice B l[k].2.length n) ∧ Ws S w B l[k].2 ∧ l[k].2.length * 80 ≤ 140737488355328 := by
  obtain ⟨g, off, cs, e, h0, hlt, h1, h2, B, n, rfl, h3, h4⟩ := h.at hk
  exact ⟨g, off, B, n, e, h0, hlt, by simpa using h2 0 (by omega), by simpa using h2 1 (by omega), h3, h4⟩
/-- The call returns a commit of its own memory. -/
def RetCm (w : World) (c : Cm) (e : Ending) (w' : World) : Prop :=
  ∃ A n, e = .returned (.agg #[.int .i64 c.1, .slice A c.2.length n]) ∧ c.2.length ≤ n ∧ Ws (From w.heap.size) w' A c.2 ∧ Below w.heap.size w w'
set_option maxRecDepth 100000 in
set_option maxHeartbeats 1000000 in
theorem commit_ok (w : World) (A : Option Addr) (t : Int) (l : List Wr) (n : Nat) (ha : Ws All w A l) (hn : l.length * 80 ≤ 140737488355328) :
    Calls Tryz.prog 9 #[.agg #[.int .i64 t, .slice A l.length n]] w (RetCm w (t, l)) := by
  have Ha := Lib.hid ha
  clear ha
  go_enter Tryz.func9, Tryz.ntmps9
  go_wp2_with fail
  go_region_held3 (fun w' => w'.cell? ⟨w.heap.size, 0, none⟩ = some (.int .i64 t) ∧ w'.cell? ⟨w.heap.size, 1, none⟩ = some (.slice A l.length n))
    (first
      | go_keep
      | (go_split_ands; refine ⟨(hb1.cell (by first | (simp; done) | omega | (simp; omega))).trans (by assumption), (hb1.cell (by first | (simp; done) | omega | (simp; omega))).trans (by assumption)⟩))
    ((go_at_call 21; (with_reducible refine (writes_ok _ A l n ?ha hn).mono ?_); (case ha => (refine Ha.out.below wrR_stays ?_; repeat' (first | exact Below.refl _ _ | assumption | refine Below.drew ?_ | refine below_drewN ?_ _ | refine Below.alloc ?_ (by first | exact Nat.le_refl _ | omega | (simp; done) | (simp; omega)) _))); rintro e w1 ⟨A1, n1, rfl, hc1, hs1, hb1⟩; have g0 : w1.cell? ⟨w.heap.size + 1, 0, none⟩ = some (.int .i64 0) := (hb1.cell (by first | (simp; done) | omega | (simp; omega))).trans (by simp); have g1 : w1.cell? ⟨w.heap.size + 1, 1, none⟩ = some (.slice none 0 0) := (hb1.cell (by first | (simp; done) | omega | (simp; omega))).trans (by simp); have f0 : w1.frozen? ⟨w.heap.size + 1, 0, none⟩ = false := (hb1.frozen (by first | (simp; done) | omega | (simp; omega))).trans (by simp); have f1 : w1.frozen? ⟨w.heap.size + 1, 1, none⟩ = false := (hb1.frozen (by first | (simp; done) | omega | (simp; omega))).trans (by simp)))
  all_goals
    go_wp2
    have hz1 := hb1.size
    simp at hz1
    refine bodyPost_ret (v := .agg #[.int .i64 t, .slice A1 l.length n1]) (by simp [results, Tryz.results9, go_sem, g0, g1]) rfl ⟨A1, n1, rfl, hc1, ?_, ?_⟩
    · exact ((hs1.less wrR_stays fun b _ h => show From (w.heap.size + 2) b by simpa using h).same wrR_stays (((Same.refl _ _).setCell (fun hq => by simp only [From] at hq; omega) _).setCell (fun hq => by simp only [From] at hq; omega) _)).lo wrR_stays (by omega)
    · refine Below.setCell (Below.setCell (Below.next ?_ hb1 (by first | (simp; done) | omega | (simp; omega))) (by first | (simp; done) | omega | (simp; omega)) _) (by first | (simp; done) | omega | (simp; omega)) _
      repeat' (first | exact Below.refl _ _ | assumption | refine Below.drew ?_ | refine below_drewN ?_ _ | refine Below.alloc ?_ (by first | exact Nat.le_refl _ | omega | (simp; done) | (simp; omega)) _)
/-- A new commit's cells, as what they say behind more allocations. -/
theorem cm_fresh {n base : Nat} {w W : World} {v : Value} {A : Option Addr} {x : Cm} {a : Nat} (h1 : Ws (From n) w A x.2) (g1 : x.2.length * 80 ≤ 140737488355328) (hs : Same (From n) w W) (hb : base ≤ n) (hap : ∀ b, From n b → v.ownBlock ≠ some b) :
    CmR (fun b => From base b ∧ v.ownBlock ≠ some b) W [.int .i64 x.1, .slice A x.2.length a] x :=
  ⟨A, a, rfl, (h1.same wrR_stays hs).less wrR_stays fun b _ h => ⟨Nat.le_trans hb h, hap b h⟩, g1⟩
set_option maxRecDepth 100000 in
set_option maxHeartbeats 1000000 in
theorem commits_ok (w : World) (A : Option Addr) (l : List Cm) (c : Nat) (ha : Cs All w A l) (hn : l.length * 32 ≤ 140737488355328) :
    Calls Tryz.prog 4 #[.slice A l.length c] w (RetSLc 2 CmR w l) := by
  obtain ⟨i0, hi0, hz0, hz1, hz2⟩ := info_parts info_cm
  have Ha := Lib.hid ha
  clear ha
  go_enter Tryz.func4, Tryz.ntmps4
  go_wp2
  go_loopw [3, 4] (fun v i wr => ∃ k : Nat, k ≤ l.length ∧ i = .int .i64 k ∧ Own 2 CmR (From w.heap.size) wr w.heap.size 32 v (l.take k) ∧ Below w.heap.size w wr) (fun _ i _ => l.length - (intOf i).toNat)
  case atStart => exact ⟨0, by omega, rfl, Own.nil _ _ _, Below.refl _ _⟩
  case round =>
    obtain ⟨k, hk, rfl, hown, hbel⟩ := hrel
    have Hbel := Lib.hid hbel
    have Hown := Lib.hid hown
    have hbz := hbel.size
    clear hown hbel
    by_cases hlt : k < l.length
    · obtain ⟨g, off, B, n, rfl, _, hal, hc1, hc2, hs1, hb1⟩ := cms_at (Ha.out.below cmR_stays Hbel.out) hlt
      have Hsn := Lib.hid (take_snoc l k hlt)
      generalize l[k] = x at *
      go_wp2_with (first
        | (go_at_call 9; refine (commit_ok _ B x.1 x.2 n (hs1.z wrR_stays) hb1).mono ?_; rintro e w1 ⟨A2, a2, rfl, _, gs1, hbw1⟩; have hzw1 := hbw1.size)
        | (at_builtin; refine wpl_snoc cmR_stays (S := From w.heap.size) _ rfl _ _ _ rfl w.heap.size 32 i0 _ 2 32 Tryz.underlying22 hi0 hz0 hz1 hz2 rfl (by decide) _ (l.take k) rfl ?hown _ _ [.int .i64 x.1, .slice A2 x.2.length a2] rfl rfl (new_src _ _ [.int .i64 x.1, .slice A2 x.2.length a2] _ (by simp)) (by simp [Value.oneCell']) ?hm ?hby ?hba x ?hd ?_; (case hown => (refine Own.below cmR_stays Hown.out ?_; repeat' (first | exact Below.refl _ _ | assumption | refine Below.drew ?_ | refine below_drewN ?_ _ | refine Below.setCell ?_ (by first | (simp; done) | omega | (simp; omega)) _ | refine Below.alloc ?_ (by first | exact Nat.le_refl _ | omega | (simp; done) | (simp; omega)) _))); (case hm => (simp only [List.length_take, maxLen]; omega)); (case hby => (simp only [List.length_take]; omega)); (case hba => (simp; omega)); (case hd => (refine cm_fresh (n := wr.heap.size) gs1 hb1 ?_ (by first | exact Nat.le_refl _ | omega | (simp; done) | (simp; omega)) (Hown.out.apart _ (Nat.le_refl _)); repeat' (first | exact Same.refl _ _ | assumption | refine Same.drew ?_ | refine Same.drewN ?_ _ | refine Same.alloc ?_ _ | refine Same.setCell ?_ (fun hq => by simp only [From] at hq; first | omega | (simp at hq; done) | (simp at hq; omega)) _))); intro v1 w2 hown2 hbw2))
      go_roundw
      case rel => exact ⟨k + 1, by omega, by go_num, by rw [Hsn.out]; exact hown2, (((Hbel.out.next hbw1 hbz).alloc (by first | exact Nat.le_refl _ | omega | (simp; done) | (simp; omega)) _).alloc (by first | exact Nat.le_refl _ | omega | (simp; done) | (simp; omega)) _).trans hbw2⟩
      case measure => simp [intOf]; omega
    · go_wp2
      go_ret
      obtain rfl : k = l.length := by omega
      have h := Hown.out
      rw [List.take_length] at h
      obtain ⟨A', c', rfl, hcap, hsl⟩ := h.readc cmR_stays
      exact ⟨A', c', rfl, hcap, hsl, Hbel.out⟩
set_option maxRecDepth 100000 in
set_option maxHeartbeats 1000000 in
theorem sameCommit_ok (w : World) (A B : Option Addr) (t : Int) (l : List Wr) (c d : Nat) (ha : Ws All w A l) (hb : Ws All w B l) (hn : l.length ≤ big) :
    Calls Tryz.prog 20 #[.agg #[.int .i64 t, .slice A l.length c], .agg #[.int .i64 t, .slice B l.length d]] w (RetV w (.bool true)) := by
  have Ha := Lib.hid ha
  have Hb := Lib.hid hb
  have Hn := Lib.hid hn
  clear ha hb hn
  go_enter Tryz.func20, Tryz.ntmps20
  go_wp2_with (go_at_call 7; refine (sameWrites_ok _ A B l c d (Ha.out.below wrR_stays ?_) (Hb.out.below wrR_stays ?_) Hn.out).mono ?_; (repeat' (first | exact Below.refl _ _ | assumption | refine Below.drew ?_ | refine below_drewN ?_ _ | refine Below.alloc ?_ (by first | exact Nat.le_refl _ | omega | (simp; done) | (simp; omega)) _)); (repeat' (first | exact Below.refl _ _ | assumption | refine Below.drew ?_ | refine below_drewN ?_ _ | refine Below.alloc ?_ (by first | exact Nat.le_refl _ | omega | (simp; done) | (simp; omega)) _)); rintro e w1 ⟨rfl, hb1⟩)
  go_ret
  refine ⟨by simp, Below.next ?_ hb1 (by simp; omega)⟩
  repeat' (first | exact Below.refl _ _ | assumption | refine Below.drew ?_ | refine below_drewN ?_ _ | refine Below.alloc ?_ (by first | exact Nat.le_refl _ | omega | (simp; done) | (simp; omega)) _)
set_option maxRecDepth 100000 in
set_option maxHeartbeats 1000000 in
theorem sameCommits_ok (w : World) (A B : Option Addr) (l : List Cm) (c d : Nat) (ha : Cs All w A l) (hb : Cs All w B l) (hn : l.length ≤ big) :
    Calls Tryz.prog 8 #[.slice A l.length c, .slice B l.length d] w (RetV w (.bool true)) := by
  unfold big at hn
  have Ha := Lib.hid ha
  have Hb := Lib.hid hb
  clear ha hb
  go_enter Tryz.func8, Tryz.ntmps8
  go_wp2
  go_loopw [5] (fun i wr => ∃ k : Nat, k ≤ l.length ∧ i = .int .i64 k ∧ Below w.heap.size w wr) (fun i _ => l.length - (intOf i).toNat)
  case atStart => exact ⟨0, by omega, rfl, Below.refl _ _⟩
  case round =>
    obtain ⟨k, hk, rfl, hbel⟩ := hrel
    have Hbel := Lib.hid hbel
    have hbz := hbel.size
    clear hbel
    by_cases hlt : k < l.length
    · obtain ⟨ab, ao, V, d1, rfl, _, hal, hc1, hc2, hs1, h80⟩ := cms_at (Ha.out.below cmR_stays Hbel.out) hlt
      obtain ⟨bb, bo, V', d1', rfl, _, hbl, hc3, hc4, hs3, _⟩ := cms_at (Hb.out.below cmR_stays Hbel.out) hlt
      generalize l[k] = x at *
      have hi0 : (0 : Int) ≤ (k : Int) := by omega
      have hi1 : (k : Int) < (l.length : Int) := by omega
      have hxb : x.2.length ≤ big := by unfold big; omega
      go_wp2_with fail
      go_region_held3 (fun w' => w'.cell? ⟨ab, ao + k * 2, none⟩ = some (.int .i64 x.1) ∧ w'.cell? ⟨ab, ao + k * 2 + 1, none⟩ = some (.slice V x.2.length d1) ∧ w'.cell? ⟨bb, bo + k * 2, none⟩ = some (.int .i64 x.1) ∧ w'.cell? ⟨bb, bo + k * 2 + 1, none⟩ = some (.slice V' x.2.length d1'))
        (first
          | go_keep
          | (go_split_ands; refine ⟨(hbw2.cell (by simp; omega)).trans (by assumption), (hbw2.cell (by simp; omega)).trans (by assumption), (hbw2.cell (by simp; omega)).trans (by assumption), (hbw2.cell (by simp; omega)).trans (by assumption)⟩))
        ((go_at_call 20; refine (sameCommit_ok _ V V' x.1 x.2 d1 d1' ((hs1.z wrR_stays).same wrR_stays (by repeat' (first | exact Same.refl _ _ | assumption | refine Same.drew ?_ | refine Same.drewN ?_ _ | refine Same.alloc ?_ _ | refine Same.setCell ?_ (fun hq => by simp only [From] at hq; first | omega | (simp at hq; done) | (simp at hq; omega)) _))) ((hs3.z wrR_stays).same wrR_stays (by repeat' (first | exact Same.refl _ _ | assumption | refine Same.drew ?_ | refine Same.drewN ?_ _ | refine Same.alloc ?_ _ | refine Same.setCell ?_ (fun hq => by simp only [From] at hq; first | omega | (simp at hq; done) | (simp at hq; omega)) _))) hxb).mono ?_; rintro e w2 ⟨rfl, hbw2⟩))
      go_wp2
      go_roundw
      case rel => exact ⟨k + 1, by omega, by go_num, Hbel.out.drew.next hbw2 (by simp; omega)⟩
      case measure => simp [intOf]; omega
    · go_wp2
      go_ret
      exact ⟨rfl, Hbel.out⟩
end Go.Proofs.YthohkgggodhbcaaGreat
namespace Go.Proofs.YthohkgggodhbcaaGreat
open Go.RowKit
set_option linter.unusedVariables false
set_option linter.unusedSimpArgs false

theorem writeS_nil (x : Wr) : (writeS [] x).2 = writeFaultS x := by
  unfold writeS
  by_cases h1 : writeFaultS x = 0
  · rw [if_neg (by simpa using h1), h1]
    have hn : nameFault x.name = 0 := by
      unfold writeFaultS at h1
      split at h1
      · rename_i h'; exact absurd h1 h'
      · rename_i h'; simpa using h'
    unfold writeFaultS at h1
    rw [if_neg (by simpa using hn)] at h1
    have hp : pairsOfS [] x.name = [] := rfl
    unfold writtenS
    dsimp only
    rw [hp]
    by_cases hf : x.flag = true
    · rw [if_pos hf] at h1
      have hk : keyFault x.key = 0 := by
        split at h1
        · rename_i h'; exact absurd h1 h'
        · rename_i h'; simpa using h'
      have e : nextS [] x = ([], 0) := by
        unfold nextS
        rw [if_pos hf]
        unfold delS pkFault
        rw [if_neg (show ¬ pairsFaultS [] ≠ 0 by decide), if_neg (by simpa using hk)]
        rfl
      rw [e]
      rfl
    · rw [if_neg hf] at h1
      have e : nextS [] x = ([(x.key, x.value)], 0) := by
        unfold nextS
        rw [if_neg hf]
        unfold putS ppFault
        rw [if_neg (show ¬ pairsFaultS [] ≠ 0 by decide), if_neg (by simpa using h1)]
        rfl
      rw [e]
      rfl
  · rw [if_pos h1]
theorem appliedS_one (x : Wr) : (appliedS [] [x]).2 = writeFaultS x := by
  unfold appliedS
  rw [if_neg (show ¬ forestFaultS [] ≠ 0 by decide), if_neg (show ¬ 10 < [x].length by simp)]
  unfold applyAll
  rw [← writeS_nil]
  by_cases h : (writeS [] x).2 = 0
  · rw [if_neg (by simpa using h), h]
    rfl
  · rw [if_pos h]
def cwAt (ws : List Wr) (i : Nat) : Int := if 10 ≤ i then 1 else writeFaultS (ws.getD i ⟨[], [], false, []⟩)
/-- What tape.Check and CommitFault answer. -/
def commitFaultS (c : Cm) : Int := if ¬ (1 ≤ c.1 ∧ c.1 ≤ 1048576) then 2 else if c.2.length = 0 then 1 else firstBad (cwAt c.2) c.2.length 0
theorem cwAt_low {ws : List Wr} {k : Nat} (hk : k < ws.length) (h : k < 10) : cwAt ws k = writeFaultS ws[k] := by
  unfold cwAt
  rw [if_neg (by omega)]
  simp [hk]
theorem cwAt_high {ws : List Wr} {k : Nat} (h : 10 ≤ k) : cwAt ws k = 1 := by
  unfold cwAt
  rw [if_pos h]
set_option maxRecDepth 100000 in
set_option maxHeartbeats 1000000 in
theorem commitFault_ok (w : World) (A : Option Addr) (t : Int) (l : List Wr) (n : Nat) (ha : Ws All w A l) (hn : l.length * 80 ≤ 140737488355328) :
    Calls Tryz.prog 50 #[.agg #[.int .i64 t, .slice A l.length n]] w (RetV w (.int .i64 (commitFaultS (t, l)))) := by
  have Ha := Lib.hid ha
  clear ha
  by_cases h1 : 1 ≤ t ∧ t ≤ 1048576
  · have b1 : (decide ((1 : Int) ≤ t) && decide (t ≤ 1048576)) = true := by simp [h1]
    by_cases h2 : l.length = 0
    · have Hv := Lib.hid (show commitFaultS (t, l) = 1 by unfold commitFaultS; rw [if_neg (by simpa using h1), if_pos h2])
      have b2 : ((l.length : Int) == 0) = true := by rw [beq_iff_eq]; omega
      clear h1 h2
      go_enter Tryz.func50, Tryz.ntmps50
      go_wp2_with (go_at_call 32; refine (in_ok _ _ _ _).mono ?_; rintro e w' ⟨rfl, rfl⟩)
      go_ret
      exact ⟨ret_int (by rw [Hv.out]), by repeat' (first | exact Below.refl _ _ | assumption | refine Below.drew ?_ | refine below_drewN ?_ _ | refine Below.setCell ?_ (by first | (simp; done) | omega | (simp; omega)) _ | refine Below.alloc ?_ (by first | exact Nat.le_refl _ | omega | (simp; done) | (simp; omega)) _)⟩
    · have Hv := Lib.hid (show commitFaultS (t, l) = firstBad (cwAt l) l.length 0 by unfold commitFaultS; rw [if_neg (by simpa using h1), if_neg h2])
      have b2 : ((l.length : Int) == 0) = false := by rw [beq_eq_false_iff_ne]; omega
      clear h1 h2
      have hbx := box_new w #[.int .i64 t, .slice A l.length n] 32
      have hb0 : Below w.heap.size w (w.alloc (.cells #[.int .i64 t, .slice A l.length n] 32)) := (Below.refl _ _).alloc (Nat.le_refl _) _
      have hz0 : w.heap.size < (w.alloc (.cells #[.int .i64 t, .slice A l.length n] 32)).heap.size := by simp
      have Hbx := Lib.hid hbx
      have Hb0 := Lib.hid hb0
      have Hz0 := Lib.hid hz0
      clear hbx hb0 hz0
      go_enter Tryz.func50, Tryz.ntmps50
      go_wp2_with (go_at_call 32; refine (in_ok _ _ _ _).mono ?_; rintro e w' ⟨rfl, rfl⟩)
      clear b1 b2
      generalize w.alloc (.cells #[.int .i64 t, .slice A l.length n] 32) = w0 at *
      go_loopw [3] (fun i wr => ∃ k : Nat, k ≤ l.length ∧ i = .int .i64 k ∧ firstBad (cwAt l) (l.length - k) k = commitFaultS (t, l) ∧ Below w0.heap.size w0 wr) (fun i _ => l.length - (intOf i).toNat)
      case atStart => exact ⟨0, by omega, rfl, by rw [Hv.out]; rfl, Below.refl _ _⟩
      case round =>
        obtain ⟨k, hk, rfl, hval, hbel⟩ := hrel
        have Hbel := Lib.hid hbel
        have Hval := Lib.hid hval
        have hbz := hbel.size
        obtain ⟨g0, g1, _, _⟩ := box2 ((hbel.block _ Hz0.out).trans Hbx.out)
        have Hb1 := Lib.hid (Hb0.out.next hbel (by have := Hz0.out; omega))
        clear hbel hval
        by_cases hlt : k < l.length
        · have Hstep := Lib.hid (firstBad_at (cwAt l) hlt)
          obtain ⟨g, off, A1, a1, B1, b1, C1, c1, rfl, _, hal, hc1, hc2, hc3, hc4, hs1, hs2, hs3, hb1, hb2, hb3⟩ := wrs_at (Ha.out.below wrR_stays Hb1.out) hlt
          by_cases h10 : k < 10
          · have Hz := Lib.hid (cwAt_low hlt h10)
            have d1 : decide ((10 : Int) ≤ (k : Int)) = false := by rw [decide_eq_false_iff_not]; omega
            by_cases he : writeFaultS l[k] = 0
            · have d2 : (writeFaultS l[k] != 0) = false := by simp [he]
              have He := Lib.hid he
              clear he
              generalize l[k] = x at *
              go_wp2_with (go_at_call 71; refine (writeFault_ok _ A1 B1 C1 x a1 b1 c1).mono ?_; rintro e w1 ⟨rfl, hbw1⟩)
              go_roundw
              case rel => exact ⟨k + 1, by omega, by go_num, by rw [← Hval.out, Hstep.out, if_neg (by rw [Hz.out, He.out]; decide)], Hbel.out.next hbw1 hbz⟩
              case measure => simp [intOf]; omega
            · have d2 : (writeFaultS l[k] != 0) = true := by simpa using he
              have He := Lib.hid he
              clear he
              generalize l[k] = x at *
              go_wp2_with (go_at_call 71; refine (writeFault_ok _ A1 B1 C1 x a1 b1 c1).mono ?_; rintro e w1 ⟨rfl, hbw1⟩)
              go_ret
              exact ⟨ret_int (by rw [← Hval.out, Hstep.out, if_pos (by rw [Hz.out]; exact He.out), Hz.out]), Hb1.out.next hbw1 (by have := Hz0.out; have := Hb0.out.size; omega)⟩
          · have Hz := Lib.hid (cwAt_high (ws := l) (k := k) (by omega))
            have d1 : decide ((10 : Int) ≤ (k : Int)) = true := by rw [decide_eq_true_eq]; omega
            generalize l[k] = x at *
            go_wp2_with (go_at_call 71; refine (writeFault_ok _ A1 B1 C1 x a1 b1 c1).mono ?_; rintro e w1 ⟨rfl, hbw1⟩)
            go_ret
            exact ⟨ret_int (by rw [← Hval.out, Hstep.out, if_pos (by rw [Hz.out]; decide), Hz.out]), Hb1.out.next hbw1 (by have := Hz0.out; have := Hb0.out.size; omega)⟩
        · obtain rfl : k = l.length := by omega
          have hfin := Hval.out
          rw [Nat.sub_self] at hfin
          have Hfin := Lib.hid hfin
          clear hfin
          go_wp2
          go_ret
          exact ⟨ret_int (by rw [← Hfin.out]; rfl), Hb1.out⟩
  · have b1 : (decide ((1 : Int) ≤ t) && decide (t ≤ 1048576)) = false := by
      rw [Bool.and_eq_false_iff, decide_eq_false_iff_not, decide_eq_false_iff_not]; omega
    have Hv := Lib.hid (show commitFaultS (t, l) = 2 by unfold commitFaultS; rw [if_pos h1])
    clear h1
    go_enter Tryz.func50, Tryz.ntmps50
    go_wp2_with (go_at_call 32; refine (in_ok _ _ _ _).mono ?_; rintro e w' ⟨rfl, rfl⟩)
    go_ret
    exact ⟨ret_int (by rw [Hv.out]), by repeat' (first | exact Below.refl _ _ | assumption | refine Below.drew ?_ | refine below_drewN ?_ _ | refine Below.setCell ?_ (by first | (simp; done) | omega | (simp; omega)) _ | refine Below.alloc ?_ (by first | exact Nat.le_refl _ | omega | (simp; done) | (simp; omega)) _)⟩
/-- One write in a block of its own. -/
theorem one_wr {w W : World} {t : TypeId} {A B C : Option Addr} {x : Wr} {a b c : Nat} (g : Nat) (hh : W.heap[g]? = some (.cells #[.slice A x.name.length a, .slice B x.key.length b, .bool x.flag, .slice C x.value.length c] t (0, 0))) (hb : Below w.heap.size w W) (h1 : Bs All w A x.name) (h2 : Bs All w B x.key) (h3 : Bs All w C x.value) (g1 : x.name.length ≤ big) (g2 : x.key.length ≤ big) (g3 : x.value.length ≤ big) : Ws All W (some ⟨g, 0, none⟩) [x] := by
  intro _
  obtain ⟨k0, k1, k2, k3, _⟩ := box4 hh
  refine ⟨g, 0, rfl, trivial, (Array.getElem?_eq_some_iff.1 hh).1, fun i hi => ?_⟩
  obtain rfl : i = 0 := by simp at hi; exact hi
  refine ⟨[.slice A x.name.length a, .slice B x.key.length b, .bool x.flag, .slice C x.value.length c], rfl, fun j hj => ?_, ⟨A, a, B, b, C, c, rfl, h1.bbelow hb, h2.bbelow hb, h3.bbelow hb, g1, g2, g3⟩⟩
  match j, hj with
  | 0, _ => simpa using k0
  | 1, _ => simpa using k1
  | 2, _ => simpa using k2
  | 3, _ => simpa using k3
set_option maxRecDepth 100000 in
set_option maxHeartbeats 1000000 in
theorem tapeCheck_ok (w : World) (A : Option Addr) (t : Int) (l : List Wr) (n : Nat) (ha : Ws All w A l) (hn : l.length * 80 ≤ 140737488355328) :
    Calls Tryz.prog 38 #[.agg #[.int .i64 t, .slice A l.length n]] w (RetV w (.int .i64 (commitFaultS (t, l)))) := by
  have Ha := Lib.hid ha
  clear ha
  by_cases h1 : 1 ≤ t ∧ t ≤ 1048576
  · have b1 : decide (t < 1) = false := by rw [decide_eq_false_iff_not]; omega
    have b1' : decide ((1048576 : Int) < t) = false := by rw [decide_eq_false_iff_not]; omega
    by_cases h2 : l.length = 0
    · have Hv := Lib.hid (show commitFaultS (t, l) = 1 by unfold commitFaultS; rw [if_neg (by simpa using h1), if_pos h2])
      have b2 : decide ((l.length : Int) < 1) = true := by rw [decide_eq_true_eq]; omega
      clear h1
      go_enter Tryz.func38, Tryz.ntmps38
      go_wp2
      go_ret
      exact ⟨ret_int (by rw [Hv.out]), by repeat' (first | exact Below.refl _ _ | assumption | refine Below.drew ?_ | refine below_drewN ?_ _ | refine Below.setCell ?_ (by first | (simp; done) | omega | (simp; omega)) _ | refine Below.alloc ?_ (by first | exact Nat.le_refl _ | omega | (simp; done) | (simp; omega)) _)⟩
    · have Hv := Lib.hid (show commitFaultS (t, l) = firstBad (cwAt l) l.length 0 by unfold commitFaultS; rw [if_neg (by simpa using h1), if_neg h2])
      have b2 : decide ((l.length : Int) < 1) = false := by rw [decide_eq_false_iff_not]; omega
      clear h1
      have Hb0 := Lib.hid (show Below w.heap.size w (w.alloc (.cells #[.int .i64 t, .slice A l.length n] 32)) from (Below.refl _ _).alloc (Nat.le_refl _) _)
      have Hz0 := Lib.hid (show w.heap.size < (w.alloc (.cells #[.int .i64 t, .slice A l.length n] 32)).heap.size by simp)
      go_enter Tryz.func38, Tryz.ntmps38
      go_wp2
      clear b1 b1' b2
      generalize w.alloc (.cells #[.int .i64 t, .slice A l.length n] 32) = w0 at *
      go_loopw [22] (fun i wr => ∃ k : Nat, k ≤ l.length ∧ k ≤ 10 ∧ i = .int .i64 k ∧ firstBad (cwAt l) (l.length - k) k = commitFaultS (t, l) ∧ Below w0.heap.size w0 wr) (fun i _ => l.length - (intOf i).toNat)
      case atStart => exact ⟨0, by omega, by omega, rfl, by rw [Hv.out]; rfl, Below.refl _ _⟩
      case round =>
        obtain ⟨k, hk, hk10, rfl, hval, hbel⟩ := hrel
        have Hbel := Lib.hid hbel
        have Hval := Lib.hid hval
        have hbz := hbel.size
        have Hb1 := Lib.hid (Hb0.out.next hbel (by have := Hz0.out; omega))
        clear hbel hval
        by_cases hlt : k < l.length
        · have Hstep := Lib.hid (firstBad_at (cwAt l) hlt)
          obtain ⟨g, off, A1, a1, B1, b1, C1, c1, rfl, _, hal, hc1, hc2, hc3, hc4, hs1, hs2, hs3, hb1, hb2, hb3⟩ := wrs_at (Ha.out.below wrR_stays Hb1.out) hlt
          by_cases h10 : k < 10
          · have Hz := Lib.hid (cwAt_low hlt h10)
            have d1 : ((k : Int) == 10) = false := by rw [beq_eq_false_iff_ne]; omega
            have Hone := Lib.hid (appliedS_one l[k])
            by_cases he : writeFaultS l[k] = 0
            · have d2 : (writeFaultS l[k] != 0) = false := by simp [he]
              have He := Lib.hid he
              clear he
              generalize l[k] = x at *
              go_wp2_with (go_at_call 39; refine (forestApply_ok _ none [] 0 _ [x] 1 SL.nil ?hws).mono ?_; (case hws => exact one_wr (w := wr) (wr.heap.size + 1) (by have := box_new (wr.alloc (.cells #[.slice A1 x.name.length a1, .slice B1 x.key.length b1, .bool x.flag, .slice C1 x.value.length c1] 40)) #[.slice A1 x.name.length a1, .slice B1 x.key.length b1, .bool x.flag, .slice C1 x.value.length c1] 40; simpa using this) (((Below.refl _ _).alloc (Nat.le_refl _) _).alloc (by simp) _) hs1.bz hs2.bz hs3.bz hb1 hb2 hb3); rintro e w1 ⟨A5, c5, rfl, _, _, hbw1⟩; rw [Hone.out]; simp only [List.length_nil])
              go_roundw
              case rel => exact ⟨k + 1, by omega, by omega, by go_num, by rw [← Hval.out, Hstep.out, if_neg (by rw [Hz.out, He.out]; decide)], ((Hbel.out.alloc hbz _).alloc (by simp; omega) _).next hbw1 (by simp; omega)⟩
              case measure => simp [intOf]; omega
            · have d2 : (writeFaultS l[k] != 0) = true := by simpa using he
              have He := Lib.hid he
              clear he
              generalize l[k] = x at *
              go_wp2_with (go_at_call 39; refine (forestApply_ok _ none [] 0 _ [x] 1 SL.nil ?hws).mono ?_; (case hws => exact one_wr (w := wr) (wr.heap.size + 1) (by have := box_new (wr.alloc (.cells #[.slice A1 x.name.length a1, .slice B1 x.key.length b1, .bool x.flag, .slice C1 x.value.length c1] 40)) #[.slice A1 x.name.length a1, .slice B1 x.key.length b1, .bool x.flag, .slice C1 x.value.length c1] 40; simpa using this) (((Below.refl _ _).alloc (Nat.le_refl _) _).alloc (by simp) _) hs1.bz hs2.bz hs3.bz hb1 hb2 hb3); rintro e w1 ⟨A5, c5, rfl, _, _, hbw1⟩; rw [Hone.out])
              go_ret
              exact ⟨ret_int (by rw [← Hval.out, Hstep.out, if_pos (by rw [Hz.out]; exact He.out), Hz.out]), ((Hb1.out.alloc (by have := Hz0.out; omega) _).alloc (by have := Hz0.out; simp; omega) _).next hbw1 (by have := Hz0.out; simp; omega)⟩
          · obtain rfl : k = 10 := by omega
            have Hz := Lib.hid (cwAt_high (ws := l) (k := 10) (by omega))
            generalize l[10] = x at *
            go_wp2
            go_ret
            exact ⟨ret_int (by rw [← Hval.out, Hstep.out, if_pos (by rw [Hz.out]; decide), Hz.out]), Hb1.out.alloc (by have := Hz0.out; omega) _⟩
        · obtain rfl : k = l.length := by omega
          have hfin := Hval.out
          rw [Nat.sub_self] at hfin
          have Hfin := Lib.hid hfin
          clear hfin
          go_wp2
          go_ret
          exact ⟨ret_int (by rw [← Hfin.out]; rfl), Hb1.out⟩
  · have Hv := Lib.hid (show commitFaultS (t, l) = 2 by unfold commitFaultS; rw [if_pos h1])
    by_cases h3 : t < 1
    · have b1 : decide (t < 1) = true := by rw [decide_eq_true_eq]; exact h3
      clear h1 h3
      go_enter Tryz.func38, Tryz.ntmps38
      go_wp2
      go_ret
      exact ⟨ret_int (by rw [Hv.out]), by repeat' (first | exact Below.refl _ _ | assumption | refine Below.drew ?_ | refine below_drewN ?_ _ | refine Below.setCell ?_ (by first | (simp; done) | omega | (simp; omega)) _ | refine Below.alloc ?_ (by first | exact Nat.le_refl _ | omega | (simp; done) | (simp; omega)) _)⟩
    · have b1 : decide (t < 1) = false := by rw [decide_eq_false_iff_not]; exact h3
      have b1' : decide ((1048576 : Int) < t) = true := by rw [decide_eq_true_eq]; omega
      clear h1 h3
      go_enter Tryz.func38, Tryz.ntmps38
      go_wp2
      go_ret
      exact ⟨ret_int (by rw [Hv.out]), by repeat' (first | exact Below.refl _ _ | assumption | refine Below.drew ?_ | refine below_drewN ?_ _ | refine Below.setCell ?_ (by first | (simp; done) | omega | (simp; omega)) _ | refine Below.alloc ?_ (by first | exact Nat.le_refl _ | omega | (simp; done) | (simp; omega)) _)⟩
end Go.Proofs.YthohkgggodhbcaaGreat
namespace Go.Proofs.YthohkgggodhbcaaGreat
open Go.RowKit
set_option linter.unusedVariables false
set_option linter.unusedSimpArgs false

/-- The forest behind so many commits. -/
def foldedS (l : List Cm) (n : Nat) : List Tn := (l.take n).foldl (fun f c => (appliedS f c.2).1) []
theorem foldedS_next {l : List Cm} {k : Nat} (h : k < l.length) : foldedS l (k + 1) = (appliedS (foldedS l k) l[k].2).1 := by
  unfold foldedS
  rw [take_snoc l k h, List.foldl_append]
  rfl
theorem foldedS_zero (l : List Cm) : foldedS l 0 = [] := rfl
theorem foldedS_fine (l : List Cm) (n : Nat) : Fine (foldedS l n) := by
  unfold foldedS
  generalize l.take n = m
  have h : ∀ (m : List Cm) (f : List Tn), Fine f → Fine (m.foldl (fun f c => (appliedS f c.2).1) f) := by
    intro m
    induction m with
    | nil => exact fun f h => h
    | cons c m ih => exact fun f _ => ih _ (appliedS_fine f c.2)
  exact h m [] rfl
/-- What is refused at a place. -/
def histAt (l : List Cm) (i : Nat) : Int :=
  if commitFaultS (l.getD i (0, [])) ≠ 0 then commitFaultS (l.getD i (0, [])) else if (l.getD i (0, [])).1 ≠ (i : Int) + 1 then 3 else (appliedS (foldedS l i) (l.getD i (0, [])).2).2
/-- What HistoryFault and history.Check answer. -/
def histFaultS (l : List Cm) : Int := if 300 < l.length then 1 else firstBad (histAt l) l.length 0
theorem histAt_bad {l : List Cm} {k : Nat} (hk : k < l.length) (h : commitFaultS l[k] ≠ 0) : histAt l k = commitFaultS l[k] := by
  simp [histAt, hk, h]
theorem histAt_turn {l : List Cm} {k : Nat} (hk : k < l.length) (h : commitFaultS l[k] = 0) (h' : l[k].1 ≠ (k : Int) + 1) : histAt l k = 3 := by
  simp [histAt, hk, h, h']
theorem histAt_apply {l : List Cm} {k : Nat} (hk : k < l.length) (h : commitFaultS l[k] = 0) (h' : l[k].1 = (k : Int) + 1) : histAt l k = (appliedS (foldedS l k) l[k].2).2 := by
  simp [histAt, hk, h, h']
set_option maxRecDepth 100000 in
set_option maxHeartbeats 1000000 in
theorem histFault_ok (w : World) (A : Option Addr) (l : List Cm) (c : Nat) (ha : Cs All w A l) :
    Calls Tryz.prog 31 #[.slice A l.length c] w (RetV w (.int .i64 (histFaultS l))) := by
  have Ha := Lib.hid ha
  clear ha
  by_cases hbig : 300 < l.length
  · go_enter Tryz.func31, Tryz.ntmps31
    go_wp2
    go_ret
    exact ⟨ret_int (by simp [histFaultS, hbig]), Below.refl _ _⟩
  · have Hv := Lib.hid (show histFaultS l = firstBad (histAt l) l.length 0 by simp [histFaultS, hbig])
    have h300 : decide (300 < (l.length : Int)) = false := by rw [decide_eq_false_iff_not]; omega
    go_enter Tryz.func31, Tryz.ntmps31
    go_wp2
    clear h300
    go_loopw [3, 4] (fun v i wr => ∃ (k : Nat) (F : Option Addr) (cf : Nat), k ≤ l.length ∧ i = .int .i64 k ∧ v = .slice F (foldedS l k).length cf ∧ Ts All wr F (foldedS l k) ∧ firstBad (histAt l) (l.length - k) k = histFaultS l ∧ Below w.heap.size w wr) (fun _ i _ => l.length - (intOf i).toNat)
    case atStart => exact ⟨0, none, 0, by omega, rfl, rfl, SL.nil, by rw [Hv.out]; rfl, Below.refl _ _⟩
    case round =>
      obtain ⟨k, F, cf, hk, rfl, rfl, hf, hval, hbel⟩ := hrel
      have Hbel := Lib.hid hbel
      have Hval := Lib.hid hval
      have HF := Lib.hid hf
      have hbz := hbel.size
      clear hbel hval hf
      by_cases hlt : k < l.length
      · have Hstep := Lib.hid (firstBad_at (histAt l) hlt)
        have Hnx := Lib.hid (foldedS_next hlt)
        obtain ⟨g, off, B, n, rfl, _, hal, hc1, hc2, hs1, h80⟩ := cms_at (Ha.out.below cmR_stays Hbel.out) hlt
        have hw1 : IntKind.i64.wrap ((k : Int) + 1) = (k : Int) + 1 := by rw [IntKind.wrap_i64]; omega
        have Hcells := Lib.hid (show ∀ W, Below wr.heap.size wr W → W.cell? ⟨g, off + k * 2, none⟩ = some (.int .i64 l[k].1) ∧ W.cell? ⟨g, off + k * 2 + 1, none⟩ = some (.slice B l[k].2.length n) from fun W hW => ⟨(hW.cell hal).trans hc1, (hW.cell hal).trans hc2⟩)
        by_cases h1 : commitFaultS l[k] = 0
        · have b1 : (commitFaultS l[k] == 0) = true := by simp [h1]
          have b2 : (commitFaultS l[k] != 0) = false := by simp [h1]
          by_cases h2 : l[k].1 = (k : Int) + 1
          · have Hz := Lib.hid (histAt_apply hlt h1 h2)
            have b3 : (l[k].1 != (k : Int) + 1) = false := by simp [h2]
            clear h1 h2
            by_cases h3 : (appliedS (foldedS l k) l[k].2).2 = 0
            · have b4 : ((appliedS (foldedS l k) l[k].2).2 != 0) = false := by simp [h3]
              have H3 := Lib.hid h3
              clear h3
              generalize l[k] = x at *
              generalize foldedS l k = f at *
              go_wp2_with (first
                | (go_at_call 50; refine (commitFault_ok _ B x.1 x.2 n (hs1.z wrR_stays) h80).mono ?_; rintro e w1 ⟨rfl, hb1⟩; obtain ⟨g0, g1⟩ := Hcells.out w1 hb1; have hz1 := hb1.size)
                | (go_at_call 51; refine (applied_ok _ F f cf B x.2 n (HF.out.below tenR_stays hb1) ((hs1.z wrR_stays).below wrR_stays hb1)).mono ?_; rintro e w2 ⟨F2, cf2, rfl, _, hs2, hb2⟩; have Hs2 := Lib.hid hs2; clear hs2))
              go_roundw
              case rel => exact ⟨k + 1, F2, cf2, by omega, by go_num, by rw [Hnx.out], by rw [Hnx.out]; exact Hs2.out.z tenR_stays, by rw [← Hval.out, Hstep.out, if_neg (by rw [Hz.out, H3.out]; decide)], (Hbel.out.next hb1 hbz).next hb2 (by omega)⟩
              case measure => simp [intOf]; omega
            · have b4 : ((appliedS (foldedS l k) l[k].2).2 != 0) = true := by simpa using h3
              have H3 := Lib.hid h3
              clear h3
              generalize l[k] = x at *
              generalize foldedS l k = f at *
              go_wp2_with (first
                | (go_at_call 50; refine (commitFault_ok _ B x.1 x.2 n (hs1.z wrR_stays) h80).mono ?_; rintro e w1 ⟨rfl, hb1⟩; obtain ⟨g0, g1⟩ := Hcells.out w1 hb1; have hz1 := hb1.size)
                | (go_at_call 51; refine (applied_ok _ F f cf B x.2 n (HF.out.below tenR_stays hb1) ((hs1.z wrR_stays).below wrR_stays hb1)).mono ?_; rintro e w2 ⟨F2, cf2, rfl, _, hs2, hb2⟩; clear hs2))
              go_ret
              exact ⟨ret_int (by rw [← Hval.out, Hstep.out, if_pos (by rw [Hz.out]; exact H3.out), Hz.out]), (Hbel.out.next hb1 hbz).next hb2 (by omega)⟩
          · have Hz := Lib.hid (histAt_turn hlt h1 h2)
            have b3 : (l[k].1 != (k : Int) + 1) = true := by simpa using h2
            clear h1 h2
            generalize l[k] = x at *
            go_wp2_with (go_at_call 50; refine (commitFault_ok _ B x.1 x.2 n (hs1.z wrR_stays) h80).mono ?_; rintro e w1 ⟨rfl, hb1⟩; obtain ⟨g0, g1⟩ := Hcells.out w1 hb1; have hz1 := hb1.size)
            go_ret
            exact ⟨ret_int (by rw [← Hval.out, Hstep.out, if_pos (by rw [Hz.out]; decide), Hz.out]), Hbel.out.next hb1 hbz⟩
        · have Hz := Lib.hid (histAt_bad hlt h1)
          have H1 := Lib.hid h1
          have b1 : (commitFaultS l[k] == 0) = false := by simpa using h1
          have b2 : (commitFaultS l[k] != 0) = true := by simpa using h1
          clear h1
          generalize l[k] = x at *
          go_wp2_with (go_at_call 50; refine (commitFault_ok _ B x.1 x.2 n (hs1.z wrR_stays) h80).mono ?_; rintro e w1 ⟨rfl, hb1⟩; obtain ⟨g0, g1⟩ := Hcells.out w1 hb1; have hz1 := hb1.size)
          go_ret
          exact ⟨ret_int (by rw [← Hval.out, Hstep.out, if_pos (by rw [Hz.out]; exact H1.out), Hz.out]), Hbel.out.next hb1 hbz⟩
      · obtain rfl : k = l.length := by omega
        have hfin := Hval.out
        rw [Nat.sub_self] at hfin
        have Hfin := Lib.hid hfin
        clear hfin
        go_wp2
        go_ret
        exact ⟨ret_int (by rw [← Hfin.out]; rfl), Hbel.out⟩
set_option maxRecDepth 100000 in
set_option maxHeartbeats 1000000 in
theorem refFolded_ok (w : World) (A : Option Addr) (l : List Cm) (c : Nat) (t : Nat) (ha : Cs All w A l) (ht : t ≤ l.length) (h3 : l.length ≤ 300) :
    Calls Tryz.prog 33 #[.slice A l.length c, .int .i64 t] w (RetSL 2 TenR w (foldedS l t)) := by
  have Ha := Lib.hid ha
  clear ha
  go_enter Tryz.func33, Tryz.ntmps33
  go_wp2
  go_loopw [5, 6] (fun v i wr => ∃ (k : Nat) (F : Option Addr) (cf : Nat), k ≤ t ∧ i = .int .i64 k ∧ v = .slice F (foldedS l k).length cf ∧ Ts (From w.heap.size) wr F (foldedS l k) ∧ Below w.heap.size w wr) (fun _ i _ => t - (intOf i).toNat)
  case atStart => exact ⟨0, none, 0, by omega, rfl, rfl, SL.nil, Below.refl _ _⟩
  case round =>
    obtain ⟨k, F, cf, hk, rfl, rfl, hf, hbel⟩ := hrel
    have Hbel := Lib.hid hbel
    have HF := Lib.hid hf
    have hbz := hbel.size
    clear hbel hf
    by_cases hlt : k < t
    · have hkl : k < l.length := by omega
      have Hnx := Lib.hid (foldedS_next hkl)
      obtain ⟨g, off, B, n, rfl, _, hal, hc1, hc2, hs1, h80⟩ := cms_at (Ha.out.below cmR_stays Hbel.out) hkl
      generalize l[k] = x at *
      generalize foldedS l k = f at *
      go_wp2_with (go_at_call 51; refine (applied_ok _ F f cf B x.2 n (HF.out.z tenR_stays) (hs1.z wrR_stays)).mono ?_; rintro e w2 ⟨F2, cf2, rfl, _, hs2, hb2⟩; have Hs2 := Lib.hid hs2; clear hs2)
      go_roundw
      case rel => exact ⟨k + 1, F2, cf2, by omega, by go_num, by rw [Hnx.out], by rw [Hnx.out]; exact Hs2.out.lo tenR_stays hbz, Hbel.out.next hb2 hbz⟩
      case measure => simp [intOf]; omega
    · obtain rfl : k = t := by omega
      go_wp2
      go_ret
      exact ⟨F, cf, rfl, HF.out, Hbel.out⟩
/-- What Fold and FoldOf answer. -/
def foldS (l : List Cm) (t : Int) : List Tn × Int := if histFaultS l ≠ 0 then ([], histFaultS l) else if ¬ (0 ≤ t ∧ t ≤ l.length) then ([], 2) else (foldedS l t.toNat, 0)
/-- The call returns tenants and a number. -/
def RetTEb (w : World) (r : List Tn × Int) (e : Ending) (w' : World) : Prop :=
  ∃ A c, e = .returned (.tuple #[.slice A r.1.length c, .int .i64 r.2]) ∧ Ts (From w.heap.size) w' A r.1 ∧ Below w.heap.size w w'
theorem hist_len {l : List Cm} (h : histFaultS l = 0) : l.length ≤ 300 := by
  unfold histFaultS at h
  split at h
  · cases h
  · omega
set_option maxRecDepth 100000 in
set_option maxHeartbeats 1000000 in
theorem foldOf_ok (w : World) (A : Option Addr) (l : List Cm) (c : Nat) (t : Int) (ha : Cs All w A l) :
    Calls Tryz.prog 14 #[.slice A l.length c, .int .i64 t] w (RetTEb w (foldS l t)) := by
  have Ha := Lib.hid ha
  clear ha
  by_cases h1 : histFaultS l = 0
  · have b1 : (histFaultS l == 0) = true := by simp [h1]
    have b1' : (histFaultS l != 0) = false := by simp [h1]
    have hl := hist_len h1
    by_cases h2 : 0 ≤ t ∧ t ≤ l.length
    · have Hv := Lib.hid (show foldS l t = (foldedS l t.toNat, 0) by unfold foldS; rw [if_neg (by simpa using h1), if_neg (by simpa using h2)])
      have b2 : (decide ((0 : Int) ≤ t) && decide (t ≤ (l.length : Int))) = true := by simp [h2]
      obtain ⟨m, rfl⟩ := Int.eq_ofNat_of_zero_le h2.1
      rw [Int.toNat_natCast] at Hv
      have hm : m ≤ l.length := by omega
      have H1 := Lib.hid h1
      clear h1 h2
      go_enter Tryz.func14, Tryz.ntmps14
      go_wp2_with (first
        | (go_at_call 31; refine (histFault_ok _ A l c Ha.out).mono ?_; rintro e w1 ⟨rfl, hb1⟩; rw [H1.out])
        | (go_at_call 32; refine (in_ok _ _ _ _).mono ?_; rintro e w' ⟨rfl, rfl⟩)
        | (go_at_call 33; refine (refFolded_ok _ A l c m (Ha.out.below cmR_stays hb1) hm hl).mono ?_; rintro e w2 ⟨F, cf, rfl, hs2, hb2⟩; have Hs2 := Lib.hid hs2; clear hs2))
      go_ret2
      rw [Hv.out]
      exact ⟨F, cf, rfl, Hs2.out.lo tenR_stays hb1.size, hb1.next hb2 hb1.size⟩
    · have Hv := Lib.hid (show foldS l t = ([], 2) by unfold foldS; rw [if_neg (by simpa using h1), if_pos h2])
      have b2 : (decide ((0 : Int) ≤ t) && decide (t ≤ (l.length : Int))) = false := by
        rw [Bool.and_eq_false_iff, decide_eq_false_iff_not, decide_eq_false_iff_not]; omega
      have H1 := Lib.hid h1
      clear h1 h2
      go_enter Tryz.func14, Tryz.ntmps14
      go_wp2_with (first
        | (go_at_call 31; refine (histFault_ok _ A l c Ha.out).mono ?_; rintro e w1 ⟨rfl, hb1⟩; rw [H1.out])
        | (go_at_call 32; refine (in_ok _ _ _ _).mono ?_; rintro e w' ⟨rfl, rfl⟩))
      go_ret2
      rw [Hv.out]
      exact ⟨none, 0, rfl, SL.nil, hb1⟩
  · have b1 : (histFaultS l == 0) = false := by simpa using h1
    have b1' : (histFaultS l != 0) = true := by simpa using h1
    have Hv := Lib.hid (show foldS l t = ([], histFaultS l) by unfold foldS; rw [if_pos h1])
    clear h1
    go_enter Tryz.func14, Tryz.ntmps14
    go_wp2_with (go_at_call 31; refine (histFault_ok _ A l c Ha.out).mono ?_; rintro e w1 ⟨rfl, hb1⟩)
    go_ret2
    rw [Hv.out]
    exact ⟨none, 0, rfl, SL.nil, hb1⟩
/-- What the program's folded has behind so many rounds for the forest that is asked for. -/
def outS (l : List Cm) (t : Int) (k : Nat) : List Tn := if 1 ≤ t ∧ t ≤ k then foldedS l t.toNat else []
theorem outS_here {l : List Cm} {t : Int} {k : Nat} (h : (k : Int) + 1 = t) : outS l t (k + 1) = foldedS l (k + 1) := by
  unfold outS
  rw [if_pos (by omega)]
  congr 1
  omega
theorem outS_there {l : List Cm} {t : Int} {k : Nat} (h : (k : Int) + 1 ≠ t) : outS l t (k + 1) = outS l t k := by
  unfold outS
  by_cases h1 : 1 ≤ t ∧ t ≤ (k : Int)
  · rw [if_pos h1, if_pos (by omega)]
  · rw [if_neg h1, if_neg (by omega)]
def foldedES (l : List Cm) (t : Int) : List Tn × Int := if histFaultS l ≠ 0 then ([], histFaultS l) else (outS l t l.length, 0)
set_option maxRecDepth 100000 in
set_option maxHeartbeats 1000000 in
theorem histFolded_ok (w : World) (A : Option Addr) (l : List Cm) (c : Nat) (t : Int) (ha : Cs All w A l) :
    Calls Tryz.prog 22 #[.slice A l.length c, .int .i64 t] w (RetTEb w (foldedES l t)) := by
  have Ha := Lib.hid ha
  clear ha
  by_cases hbig : 300 < l.length
  · have hh : histFaultS l = 1 := by simp [histFaultS, hbig]
    have Hv := Lib.hid (show foldedES l t = ([], 1) by unfold foldedES; rw [hh, if_pos (by decide)])
    clear hh
    go_enter Tryz.func22, Tryz.ntmps22
    go_wp2
    go_ret2
    rw [Hv.out]
    exact ⟨none, 0, rfl, SL.nil, Below.refl _ _⟩
  · have Hv := Lib.hid (show histFaultS l = firstBad (histAt l) l.length 0 by simp [histFaultS, hbig])
    have h300 : decide (300 < (l.length : Int)) = false := by rw [decide_eq_false_iff_not]; omega
    go_enter Tryz.func22, Tryz.ntmps22
    go_wp2
    clear h300
    go_loopw [6, 7, 18] (fun v u i wr => ∃ (k : Nat) (F : Option Addr) (cf : Nat) (O : Option Addr) (co : Nat), k ≤ l.length ∧ i = .int .i64 k ∧ v = .slice F (foldedS l k).length cf ∧ Ts All wr F (foldedS l k) ∧ u = .slice O (outS l t k).length co ∧ Ts (From w.heap.size) wr O (outS l t k) ∧ firstBad (histAt l) (l.length - k) k = histFaultS l ∧ Below w.heap.size w wr) (fun _ _ i _ => l.length - (intOf i).toNat)
    case atStart => exact ⟨0, none, 0, none, 0, by omega, rfl, rfl, SL.nil, by unfold outS; rw [if_neg (by omega)]; rfl, by unfold outS; rw [if_neg (by omega)]; exact SL.nil, by rw [Hv.out]; rfl, Below.refl _ _⟩
    case round =>
      obtain ⟨k, F, cf, O, co, hk, rfl, rfl, hf, rfl, ho, hval, hbel⟩ := hrel
      have Hbel := Lib.hid hbel
      have Hval := Lib.hid hval
      have HF := Lib.hid hf
      have HO := Lib.hid ho
      have hbz := hbel.size
      clear hbel hval hf ho
      by_cases hlt : k < l.length
      · have Hstep := Lib.hid (firstBad_at (histAt l) hlt)
        have Hnx := Lib.hid (foldedS_next hlt)
        obtain ⟨g, off, B, n, rfl, _, hal, hc1, hc2, hs1, h80⟩ := cms_at (Ha.out.below cmR_stays Hbel.out) hlt
        have hw1 : IntKind.i64.wrap ((k : Int) + 1) = (k : Int) + 1 := by rw [IntKind.wrap_i64]; omega
        have Hbad := Lib.hid (show ∀ e : Int, e ≠ 0 → histFaultS l = e → foldedES l t = ([], e) from fun e h1 h2 => by unfold foldedES; rw [h2, if_pos h1])
        have Hcx := Lib.hid (show ∀ W, Below (wr.heap.size + 1) (wr.alloc (.cells #[.int .i64 l[k].1, .slice B l[k].2.length n] 32)) W → W.cell? ⟨wr.heap.size, 0, none⟩ = some (.int .i64 l[k].1) ∧ W.cell? ⟨wr.heap.size, 1, none⟩ = some (.slice B l[k].2.length n) ∧ Below wr.heap.size wr W ∧ wr.heap.size + 1 ≤ W.heap.size from fun W hW => by
          obtain ⟨g0, g1, _, _⟩ := box2 ((hW.block _ (by omega)).trans (box_new wr _ _))
          exact ⟨g0, g1, ((Below.refl wr.heap.size wr).alloc (Nat.le_refl _) _).trans (hW.mono (by omega)), by simpa using hW.size⟩)
        by_cases h1 : commitFaultS l[k] = 0
        · have b2 : (commitFaultS l[k] != 0) = false := by simp [h1]
          by_cases h2 : l[k].1 = (k : Int) + 1
          · have Hz := Lib.hid (histAt_apply hlt h1 h2)
            have b3 : (l[k].1 != (k : Int) + 1) = false := by simp [h2]
            clear h1 h2
            by_cases h3 : (appliedS (foldedS l k) l[k].2).2 = 0
            · have b4 : ((appliedS (foldedS l k) l[k].2).2 != 0) = false := by simp [h3]
              have H3 := Lib.hid h3
              clear h3
              by_cases h4 : (k : Int) + 1 = t
              · have b5 : ((k : Int) + 1 == t) = true := by simpa using h4
                have Hout := Lib.hid (outS_here (l := l) h4)
                clear h4
                generalize l[k] = x at *
                generalize foldedS l k = f at *
                go_wp2_with (first
                  | (go_at_call 38; refine (tapeCheck_ok _ B x.1 x.2 n ((hs1.z wrR_stays).below wrR_stays ((Below.refl _ _).alloc (Nat.le_refl _) _)) h80).mono ?_; rintro e w1 ⟨rfl, hb1'⟩; have hb1 := hb1'.mono (show wr.heap.size + 1 ≤ _ by simp); obtain ⟨g0, g1, hbw, hz1⟩ := Hcx.out w1 hb1)
                  | (go_at_call 39; refine (forestApply_ok _ F f cf B x.2 n (HF.out.below tenR_stays hbw) ((hs1.z wrR_stays).below wrR_stays hbw)).mono ?_; rintro e w2 ⟨F2, cf2, rfl, _, hs2, hb2⟩; have Hs2 := Lib.hid hs2; clear hs2))
                go_roundw
                case rel => exact ⟨k + 1, F2, cf2, F2, cf2, by omega, by go_num, by rw [Hnx.out], by rw [Hnx.out]; exact Hs2.out.z tenR_stays, by rw [Hout.out, Hnx.out], by rw [Hout.out, Hnx.out]; exact Hs2.out.lo tenR_stays (by omega), by rw [← Hval.out, Hstep.out, if_neg (by rw [Hz.out, H3.out]; decide)], (Hbel.out.next hbw hbz).next hb2 (by omega)⟩
                case measure => simp [intOf]; omega
              · have b5 : ((k : Int) + 1 == t) = false := by simpa using h4
                have Hout := Lib.hid (outS_there (l := l) h4)
                clear h4
                generalize l[k] = x at *
                generalize foldedS l k = f at *
                go_wp2_with (first
                  | (go_at_call 38; refine (tapeCheck_ok _ B x.1 x.2 n ((hs1.z wrR_stays).below wrR_stays ((Below.refl _ _).alloc (Nat.le_refl _) _)) h80).mono ?_; rintro e w1 ⟨rfl, hb1'⟩; have hb1 := hb1'.mono (show wr.heap.size + 1 ≤ _ by simp); obtain ⟨g0, g1, hbw, hz1⟩ := Hcx.out w1 hb1)
                  | (go_at_call 39; refine (forestApply_ok _ F f cf B x.2 n (HF.out.below tenR_stays hbw) ((hs1.z wrR_stays).below wrR_stays hbw)).mono ?_; rintro e w2 ⟨F2, cf2, rfl, _, hs2, hb2⟩; have Hs2 := Lib.hid hs2; clear hs2))
                go_roundw
                case rel => exact ⟨k + 1, F2, cf2, O, co, by omega, by go_num, by rw [Hnx.out], by rw [Hnx.out]; exact Hs2.out.z tenR_stays, by rw [Hout.out], by rw [Hout.out]; exact (HO.out.below tenR_stays hbw).below tenR_stays hb2, by rw [← Hval.out, Hstep.out, if_neg (by rw [Hz.out, H3.out]; decide)], (Hbel.out.next hbw hbz).next hb2 (by omega)⟩
                case measure => simp [intOf]; omega
            · have b4 : ((appliedS (foldedS l k) l[k].2).2 != 0) = true := by simpa using h3
              have H3 := Lib.hid h3
              clear h3
              generalize l[k] = x at *
              generalize foldedS l k = f at *
              go_wp2_with (first
                | (go_at_call 38; refine (tapeCheck_ok _ B x.1 x.2 n ((hs1.z wrR_stays).below wrR_stays ((Below.refl _ _).alloc (Nat.le_refl _) _)) h80).mono ?_; rintro e w1 ⟨rfl, hb1'⟩; have hb1 := hb1'.mono (show wr.heap.size + 1 ≤ _ by simp); obtain ⟨g0, g1, hbw, hz1⟩ := Hcx.out w1 hb1)
                | (go_at_call 39; refine (forestApply_ok _ F f cf B x.2 n (HF.out.below tenR_stays hbw) ((hs1.z wrR_stays).below wrR_stays hbw)).mono ?_; rintro e w2 ⟨F2, cf2, rfl, _, hs2, hb2⟩; clear hs2))
              go_ret2
              rw [Hbad.out _ H3.out (by rw [← Hval.out, Hstep.out, if_pos (by rw [Hz.out]; exact H3.out), Hz.out])]
              exact ⟨none, 0, rfl, SL.nil, (Hbel.out.next hbw hbz).next hb2 (by omega)⟩
          · have Hz := Lib.hid (histAt_turn hlt h1 h2)
            have b3 : (l[k].1 != (k : Int) + 1) = true := by simpa using h2
            clear h1 h2
            generalize l[k] = x at *
            go_wp2_with (go_at_call 38; refine (tapeCheck_ok _ B x.1 x.2 n ((hs1.z wrR_stays).below wrR_stays ((Below.refl _ _).alloc (Nat.le_refl _) _)) h80).mono ?_; rintro e w1 ⟨rfl, hb1'⟩; have hb1 := hb1'.mono (show wr.heap.size + 1 ≤ _ by simp); obtain ⟨g0, g1, hbw, hz1⟩ := Hcx.out w1 hb1)
            go_ret2
            rw [Hbad.out 3 (by decide) (by rw [← Hval.out, Hstep.out, if_pos (by rw [Hz.out]; decide), Hz.out])]
            exact ⟨none, 0, rfl, SL.nil, Hbel.out.next hbw hbz⟩
        · have Hz := Lib.hid (histAt_bad hlt h1)
          have H1 := Lib.hid h1
          have b2 : (commitFaultS l[k] != 0) = true := by simpa using h1
          clear h1
          generalize l[k] = x at *
          go_wp2_with (go_at_call 38; refine (tapeCheck_ok _ B x.1 x.2 n ((hs1.z wrR_stays).below wrR_stays ((Below.refl _ _).alloc (Nat.le_refl _) _)) h80).mono ?_; rintro e w1 ⟨rfl, hb1'⟩; have hb1 := hb1'.mono (show wr.heap.size + 1 ≤ _ by simp); obtain ⟨g0, g1, hbw, hz1⟩ := Hcx.out w1 hb1)
          go_ret2
          rw [Hbad.out _ H1.out (by rw [← Hval.out, Hstep.out, if_pos (by rw [Hz.out]; exact H1.out), Hz.out])]
          exact ⟨none, 0, rfl, SL.nil, Hbel.out.next hbw hbz⟩
      · obtain rfl : k = l.length := by omega
        have hfin := Hval.out
        rw [Nat.sub_self] at hfin
        have Hgood := Lib.hid (show foldedES l t = (outS l t l.length, 0) by unfold foldedES; rw [← hfin]; rfl)
        clear hfin
        go_wp2
        go_ret2
        rw [Hgood.out]
        exact ⟨O, co, rfl, HO.out, Hbel.out⟩
end Go.Proofs.YthohkgggodhbcaaGreat
namespace Go.Proofs.YthohkgggodhbcaaGreat
open Go.RowKit
set_option linter.unusedVariables false
set_option linter.unusedSimpArgs false

theorem outS_end {l : List Cm} {t : Int} (h : 0 ≤ t ∧ t ≤ l.length) : outS l t l.length = foldedS l t.toNat := by
  unfold outS
  by_cases h1 : 1 ≤ t
  · rw [if_pos ⟨h1, h.2⟩]
  · rw [if_neg (by omega)]
    obtain rfl : t = 0 := by omega
    rfl
set_option maxRecDepth 100000 in
set_option maxHeartbeats 1000000 in
theorem historyFold_ok (w : World) (A : Option Addr) (l : List Cm) (c : Nat) (t : Int) (ha : Cs All w A l) :
    Calls Tryz.prog 10 #[.slice A l.length c, .int .i64 t] w (RetTEb w (foldS l t)) := by
  have Ha := Lib.hid ha
  clear ha
  by_cases h1 : histFaultS l = 0
  · have Hf := Lib.hid (show foldedES l t = (outS l t l.length, 0) by unfold foldedES; rw [if_neg (by simpa using h1)])
    by_cases h2 : 0 ≤ t ∧ t ≤ l.length
    · have Hv := Lib.hid (show foldS l t = (outS l t l.length, 0) by unfold foldS; rw [if_neg (by simpa using h1), if_neg (by simpa using h2), outS_end h2])
      have b1 : decide (t < 0) = false := by rw [decide_eq_false_iff_not]; omega
      have b2 : decide ((l.length : Int) < t) = false := by rw [decide_eq_false_iff_not]; omega
      clear h1 h2
      go_enter Tryz.func10, Tryz.ntmps10
      go_wp2_with (go_at_call 22; refine (histFolded_ok _ A l c _ Ha.out).mono ?_; rw [Hf.out]; rintro e w1 ⟨F, cf, rfl, hs1, hb1⟩; have Hs1 := Lib.hid hs1; clear hs1)
      go_ret2
      rw [Hv.out]
      exact ⟨F, cf, rfl, Hs1.out, hb1⟩
    · have Hv := Lib.hid (show foldS l t = ([], 2) by unfold foldS; rw [if_neg (by simpa using h1), if_pos h2])
      by_cases h3 : t < 0
      · have b1 : decide (t < 0) = true := by rw [decide_eq_true_eq]; exact h3
        clear h1 h2 h3
        go_enter Tryz.func10, Tryz.ntmps10
        go_wp2_with (go_at_call 22; refine (histFolded_ok _ A l c _ Ha.out).mono ?_; rw [Hf.out]; rintro e w1 ⟨F, cf, rfl, hs1, hb1⟩; clear hs1)
        go_ret2
        rw [Hv.out]
        exact ⟨none, 0, rfl, SL.nil, hb1⟩
      · have b1 : decide (t < 0) = false := by rw [decide_eq_false_iff_not]; exact h3
        have b2 : decide ((l.length : Int) < t) = true := by rw [decide_eq_true_eq]; omega
        clear h1 h2 h3
        go_enter Tryz.func10, Tryz.ntmps10
        go_wp2_with (go_at_call 22; refine (histFolded_ok _ A l c _ Ha.out).mono ?_; rw [Hf.out]; rintro e w1 ⟨F, cf, rfl, hs1, hb1⟩; clear hs1)
        go_ret2
        rw [Hv.out]
        exact ⟨none, 0, rfl, SL.nil, hb1⟩
  · have Hf := Lib.hid (show foldedES l t = ([], histFaultS l) by unfold foldedES; rw [if_pos h1])
    have b1 : (histFaultS l != 0) = true := by simpa using h1
    have Hv := Lib.hid (show foldS l t = ([], histFaultS l) by unfold foldS; rw [if_pos h1])
    clear h1
    go_enter Tryz.func10, Tryz.ntmps10
    go_wp2_with (go_at_call 22; refine (histFolded_ok _ A l c _ Ha.out).mono ?_; rw [Hf.out]; rintro e w1 ⟨F, cf, rfl, hs1, hb1⟩; clear hs1)
    go_ret2
    rw [Hv.out]
    exact ⟨none, 0, rfl, SL.nil, hb1⟩
theorem appliedS_len (f : List Tn) (ws : List Wr) : (appliedS f ws).1.length ≤ 8 := (ten_fine (appliedS_fine f ws)).1
theorem foldedS_len (l : List Cm) (n : Nat) : (foldedS l n).length ≤ 8 := (ten_fine (foldedS_fine l n)).1
theorem foldS_len (l : List Cm) (t : Int) : (foldS l t).1.length ≤ 8 := by
  unfold foldS
  split
  · simp
  · split
    · simp
    · exact foldedS_len _ _
end Go.Proofs.YthohkgggodhbcaaGreat
