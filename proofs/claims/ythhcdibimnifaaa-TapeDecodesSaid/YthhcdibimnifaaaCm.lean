/- Commits: words for memory; copied, held against each other. -/
import Derived.Test.YthhcdibimnifaaaWr
import Derived.Test.YthhcdibimnifaaaApplyLaw
namespace Go.Proofs.Ythhcdibimnifaaa
open Go.RowKit
set_option linter.unusedVariables false
set_option linter.unusedSimpArgs false

abbrev Cm := Int × List Wr
/-- The two cells of a commit. -/
def CmR (S : Nat → Prop) (w : World) (cs : List Value) (c : Cm) : Prop :=
  ∃ A n, cs = [.int .i64 c.1, .slice A c.2.length n] ∧ Ws S w A c.2 ∧ c.2.length * 80 ≤ 140737488355328
theorem cmR_stays : Stays CmR :=
  ⟨fun _ _ _ _ _ hb ⟨A, n, h0, h1, h2⟩ => ⟨A, n, h0, h1.same wrR_stays hb, h2⟩, fun _ _ _ _ _ hb ⟨A, n, h0, h1, h2⟩ => ⟨A, n, h0, h1.less wrR_stays hb, h2⟩⟩
theorem info_cm : (Try.prog.info? 59).map (fun i => (i.zero, i.size, i.bytes)) = some (some (.agg #[.int .i64 0, .slice none 0 0]), 2, 32) := by kernel_rfl
abbrev Cs (S : Nat → Prop) (w : World) (A : Option Addr) (l : List Cm) : Prop := SL 2 CmR S w A l
theorem cms_at {S : Nat → Prop} {w : World} {A : Option Addr} {l : List Cm} (h : Cs S w A l) {k : Nat} (hk : k < l.length) :
    ∃ g off B n, A = some ⟨g, off, none⟩ ∧ S g ∧ g < w.heap.size ∧ w.cell? ⟨g, off + k * 2, none⟩ = some (.int .i64 l[k].1) ∧ w.cell? ⟨g, off + k * 2 + 1, none⟩ = some (.slice B l[k].2.length n) ∧ Ws S w B l[k].2 ∧ l[k].2.length * 80 ≤ 140737488355328 := by
  obtain ⟨g, off, cs, e, h0, hlt, h1, h2, B, n, rfl, h3, h4⟩ := h.at hk
  exact ⟨g, off, B, n, e, h0, hlt, by simpa using h2 0 (by omega), by simpa using h2 1 (by omega), h3, h4⟩
/-- The call returns a commit of its own memory. -/
def RetCm (w : World) (c : Cm) (e : Ending) (w' : World) : Prop :=
  ∃ A n, e = .returned (.agg #[.int .i64 c.1, .slice A c.2.length n]) ∧ c.2.length ≤ n ∧ Ws (From w.heap.size) w' A c.2 ∧ Below w.heap.size w w'
set_option maxRecDepth 100000 in
set_option maxHeartbeats 1000000 in
theorem commit_ok (w : World) (A : Option Addr) (t : Int) (l : List Wr) (n : Nat) (ha : Ws All w A l) (hn : l.length * 80 ≤ 140737488355328) :
    Calls Try.prog 49 #[.agg #[.int .i64 t, .slice A l.length n]] w (RetCm w (t, l)) := by
  have Ha := Lib.hid ha
  clear ha
  go_enter Try.func49, Try.ntmps49
  go_wp2_with fail
  go_region_held3 (fun w' => w'.cell? ⟨w.heap.size, 0, none⟩ = some (.int .i64 t) ∧ w'.cell? ⟨w.heap.size, 1, none⟩ = some (.slice A l.length n))
    (first
      | go_keep
      | (go_split_ands; refine ⟨(hb1.cell (by first | (simp; done) | omega | (simp; omega))).trans (by assumption), (hb1.cell (by first | (simp; done) | omega | (simp; omega))).trans (by assumption)⟩))
    ((go_at_call 43; (with_reducible refine (writes_ok _ A l n ?ha hn).mono ?_); (case ha => (refine Ha.out.below wrR_stays ?_; repeat' (first | exact Below.refl _ _ | assumption | refine Below.drew ?_ | refine below_drewN ?_ _ | refine Below.alloc ?_ (by first | exact Nat.le_refl _ | omega | (simp; done) | (simp; omega)) _))); rintro e w1 ⟨A1, n1, rfl, hc1, hs1, hb1⟩; have g0 : w1.cell? ⟨w.heap.size + 1, 0, none⟩ = some (.int .i64 0) := (hb1.cell (by first | (simp; done) | omega | (simp; omega))).trans (by simp); have g1 : w1.cell? ⟨w.heap.size + 1, 1, none⟩ = some (.slice none 0 0) := (hb1.cell (by first | (simp; done) | omega | (simp; omega))).trans (by simp); have f0 : w1.frozen? ⟨w.heap.size + 1, 0, none⟩ = false := (hb1.frozen (by first | (simp; done) | omega | (simp; omega))).trans (by simp); have f1 : w1.frozen? ⟨w.heap.size + 1, 1, none⟩ = false := (hb1.frozen (by first | (simp; done) | omega | (simp; omega))).trans (by simp)))
  all_goals
    go_wp2
    have hz1 := hb1.size
    simp at hz1
    refine bodyPost_ret (v := .agg #[.int .i64 t, .slice A1 l.length n1]) (by simp [results, Try.results49, go_sem, g0, g1]) rfl ⟨A1, n1, rfl, hc1, ?_, ?_⟩
    · exact ((hs1.less wrR_stays fun b _ h => show From (w.heap.size + 2) b by simpa using h).same wrR_stays (((Same.refl _ _).setCell (fun hq => by simp only [From] at hq; omega) _).setCell (fun hq => by simp only [From] at hq; omega) _)).lo wrR_stays (by omega)
    · refine Below.setCell (Below.setCell (Below.next ?_ hb1 (by first | (simp; done) | omega | (simp; omega))) (by first | (simp; done) | omega | (simp; omega)) _) (by first | (simp; done) | omega | (simp; omega)) _
      repeat' (first | exact Below.refl _ _ | assumption | refine Below.drew ?_ | refine below_drewN ?_ _ | refine Below.alloc ?_ (by first | exact Nat.le_refl _ | omega | (simp; done) | (simp; omega)) _)
/-- A new commit's cells, as what they say behind more allocations. -/
theorem cm_fresh {n base : Nat} {w W : World} {v : Value} {A : Option Addr} {x : Cm} {a : Nat} (h1 : Ws (From n) w A x.2) (g1 : x.2.length * 80 ≤ 140737488355328) (hs : Same (From n) w W) (hb : base ≤ n) (hap : ∀ b, From n b → v.ownBlock ≠ some b) :
    CmR (fun b => From base b ∧ v.ownBlock ≠ some b) W [.int .i64 x.1, .slice A x.2.length a] x :=
  ⟨A, a, rfl, (h1.same wrR_stays hs).less wrR_stays fun b _ h => ⟨Nat.le_trans hb h, hap b h⟩, g1⟩
set_option maxRecDepth 100000 in
set_option maxHeartbeats 1000000 in
theorem commits_ok (w : World) (A : Option Addr) (l : List Cm) (c : Nat) (ha : Cs All w A l) (hn : l.length * 32 ≤ 140737488355328) :
    Calls Try.prog 58 #[.slice A l.length c] w (RetSLc 2 CmR w l) := by
  obtain ⟨i0, hi0, hz0, hz1, hz2⟩ := info_parts info_cm
  have Ha := Lib.hid ha
  clear ha
  go_enter Try.func58, Try.ntmps58
  go_wp2
  go_loopw [3, 4] (fun v i wr => ∃ k : Nat, k ≤ l.length ∧ i = .int .i64 k ∧ Own 2 CmR (From w.heap.size) wr w.heap.size 59 v (l.take k) ∧ Below w.heap.size w wr) (fun _ i _ => l.length - (intOf i).toNat)
  case atStart => exact ⟨0, by omega, rfl, Own.nil _ _ _, Below.refl _ _⟩
  case round =>
    obtain ⟨k, hk, rfl, hown, hbel⟩ := hrel
    have Hbel := Lib.hid hbel
    have Hown := Lib.hid hown
    have hbz := hbel.size
    clear hown hbel
    by_cases hlt : k < l.length
    · obtain ⟨g, off, B, n, rfl, _, hal, hc1, hc2, hs1, hb1⟩ := cms_at (Ha.out.below cmR_stays Hbel.out) hlt
      have Hsn := Lib.hid (take_snoc l k hlt)
      generalize l[k] = x at *
      go_wp2_with (first
        | (go_at_call 49; refine (commit_ok _ B x.1 x.2 n (hs1.z wrR_stays) hb1).mono ?_; rintro e w1 ⟨A2, a2, rfl, _, gs1, hbw1⟩; have hzw1 := hbw1.size)
        | (at_builtin; refine wpl_snoc cmR_stays (S := From w.heap.size) _ rfl _ _ _ rfl w.heap.size 59 i0 _ 2 32 Try.underlying70 hi0 hz0 hz1 hz2 rfl (by decide) _ (l.take k) rfl ?hown _ _ [.int .i64 x.1, .slice A2 x.2.length a2] rfl rfl (new_src _ _ [.int .i64 x.1, .slice A2 x.2.length a2] _ (by simp)) (by simp [Value.oneCell']) ?hm ?hby ?hba x ?hd ?_; (case hown => (refine Own.below cmR_stays Hown.out ?_; repeat' (first | exact Below.refl _ _ | assumption | refine Below.drew ?_ | refine below_drewN ?_ _ | refine Below.setCell ?_ (by first | (simp; done) | omega | (simp; omega)) _ | refine Below.alloc ?_ (by first | exact Nat.le_refl _ | omega | (simp; done) | (simp; omega)) _))); (case hm => (simp only [List.length_take, maxLen]; omega)); (case hby => (simp only [List.length_take]; omega)); (case hba => (simp; omega)); (case hd => (refine cm_fresh (n := wr.heap.size) gs1 hb1 ?_ (by first | exact Nat.le_refl _ | omega | (simp; done) | (simp; omega)) (Hown.out.apart _ (Nat.le_refl _)); repeat' (first | exact Same.refl _ _ | assumption | refine Same.drew ?_ | refine Same.drewN ?_ _ | refine Same.alloc ?_ _ | refine Same.setCell ?_ (fun hq => by simp only [From] at hq; first | omega | (simp at hq; done) | (simp at hq; omega)) _))); intro v1 w2 hown2 hbw2))
      go_roundw
      case rel => exact ⟨k + 1, by omega, by go_num, by rw [Hsn.out]; exact hown2, (((Hbel.out.next hbw1 hbz).alloc (by first | exact Nat.le_refl _ | omega | (simp; done) | (simp; omega)) _).alloc (by first | exact Nat.le_refl _ | omega | (simp; done) | (simp; omega)) _).trans hbw2⟩
      case measure => simp [intOf]; omega
    · go_wp2
      go_ret
      obtain rfl : k = l.length := by omega
      have h := Hown.out
      rw [List.take_length] at h
      obtain ⟨A', c', rfl, hcap, hsl⟩ := h.readc cmR_stays
      exact ⟨A', c', rfl, hcap, hsl, Hbel.out⟩
set_option maxRecDepth 100000 in
set_option maxHeartbeats 1000000 in
theorem sameCommit_ok (w : World) (A B : Option Addr) (t : Int) (l : List Wr) (c d : Nat) (ha : Ws All w A l) (hb : Ws All w B l) (hn : l.length ≤ big) :
    Calls Try.prog 54 #[.agg #[.int .i64 t, .slice A l.length c], .agg #[.int .i64 t, .slice B l.length d]] w (RetV w (.bool true)) := by
  have Ha := Lib.hid ha
  have Hb := Lib.hid hb
  have Hn := Lib.hid hn
  clear ha hb hn
  go_enter Try.func54, Try.ntmps54
  go_wp2_with (go_at_call 47; refine (sameWrites_ok _ A B l c d (Ha.out.below wrR_stays ?_) (Hb.out.below wrR_stays ?_) Hn.out).mono ?_; (repeat' (first | exact Below.refl _ _ | assumption | refine Below.drew ?_ | refine below_drewN ?_ _ | refine Below.alloc ?_ (by first | exact Nat.le_refl _ | omega | (simp; done) | (simp; omega)) _)); (repeat' (first | exact Below.refl _ _ | assumption | refine Below.drew ?_ | refine below_drewN ?_ _ | refine Below.alloc ?_ (by first | exact Nat.le_refl _ | omega | (simp; done) | (simp; omega)) _)); rintro e w1 ⟨rfl, hb1⟩)
  go_ret
  refine ⟨by simp, Below.next ?_ hb1 (by simp; omega)⟩
  repeat' (first | exact Below.refl _ _ | assumption | refine Below.drew ?_ | refine below_drewN ?_ _ | refine Below.alloc ?_ (by first | exact Nat.le_refl _ | omega | (simp; done) | (simp; omega)) _)
set_option maxRecDepth 100000 in
set_option maxHeartbeats 1000000 in
theorem sameCommits_ok (w : World) (A B : Option Addr) (l : List Cm) (c d : Nat) (ha : Cs All w A l) (hb : Cs All w B l) (hn : l.length ≤ big) :
    Calls Try.prog 62 #[.slice A l.length c, .slice B l.length d] w (RetV w (.bool true)) := by
  unfold big at hn
  have Ha := Lib.hid ha
  have Hb := Lib.hid hb
  clear ha hb
  go_enter Try.func62, Try.ntmps62
  go_wp2
  go_loopw [5] (fun i wr => ∃ k : Nat, k ≤ l.length ∧ i = .int .i64 k ∧ Below w.heap.size w wr) (fun i _ => l.length - (intOf i).toNat)
  case atStart => exact ⟨0, by omega, rfl, Below.refl _ _⟩
  case round =>
    obtain ⟨k, hk, rfl, hbel⟩ := hrel
    have Hbel := Lib.hid hbel
    have hbz := hbel.size
    clear hbel
    by_cases hlt : k < l.length
    · obtain ⟨ab, ao, V, d1, rfl, _, hal, hc1, hc2, hs1, h80⟩ := cms_at (Ha.out.below cmR_stays Hbel.out) hlt
      obtain ⟨bb, bo, V', d1', rfl, _, hbl, hc3, hc4, hs3, _⟩ := cms_at (Hb.out.below cmR_stays Hbel.out) hlt
      generalize l[k] = x at *
      have hi0 : (0 : Int) ≤ (k : Int) := by omega
      have hi1 : (k : Int) < (l.length : Int) := by omega
      have hxb : x.2.length ≤ big := by unfold big; omega
      go_wp2_with fail
      go_region_held3 (fun w' => w'.cell? ⟨ab, ao + k * 2, none⟩ = some (.int .i64 x.1) ∧ w'.cell? ⟨ab, ao + k * 2 + 1, none⟩ = some (.slice V x.2.length d1) ∧ w'.cell? ⟨bb, bo + k * 2, none⟩ = some (.int .i64 x.1) ∧ w'.cell? ⟨bb, bo + k * 2 + 1, none⟩ = some (.slice V' x.2.length d1'))
        (first
          | go_keep
          | (go_split_ands; refine ⟨(hbw2.cell (by simp; omega)).trans (by assumption), (hbw2.cell (by simp; omega)).trans (by assumption), (hbw2.cell (by simp; omega)).trans (by assumption), (hbw2.cell (by simp; omega)).trans (by assumption)⟩))
        ((go_at_call 54; refine (sameCommit_ok _ V V' x.1 x.2 d1 d1' ((hs1.z wrR_stays).same wrR_stays (by repeat' (first | exact Same.refl _ _ | assumption | refine Same.drew ?_ | refine Same.drewN ?_ _ | refine Same.alloc ?_ _ | refine Same.setCell ?_ (fun hq => by simp only [From] at hq; first | omega | (simp at hq; done) | (simp at hq; omega)) _))) ((hs3.z wrR_stays).same wrR_stays (by repeat' (first | exact Same.refl _ _ | assumption | refine Same.drew ?_ | refine Same.drewN ?_ _ | refine Same.alloc ?_ _ | refine Same.setCell ?_ (fun hq => by simp only [From] at hq; first | omega | (simp at hq; done) | (simp at hq; omega)) _))) hxb).mono ?_; rintro e w2 ⟨rfl, hbw2⟩))
      go_wp2
      go_roundw
      case rel => exact ⟨k + 1, by omega, by go_num, Hbel.out.drew.next hbw2 (by simp; omega)⟩
      case measure => simp [intOf]; omega
    · go_wp2
      go_ret
      exact ⟨rfl, Hbel.out⟩
end Go.Proofs.Ythhcdibimnifaaa
