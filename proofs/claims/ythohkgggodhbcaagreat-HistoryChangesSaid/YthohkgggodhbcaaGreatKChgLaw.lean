/- ChgLaw: The law HistoryChanges: both answer what the plain words say; nothing that was there turns. The conditions of each are in its words. -/
import Derived.Test.YthohkgggodhbcaaGreatKChgX
namespace Go.Proofs.YthohkgggodhbcaaGreat
open Go.RowKit
set_option linter.unusedVariables false
set_option linter.unusedSimpArgs false

theorem changesS_len (l : List Cm) (f t : Int) : (changesS l f t).1.length ≤ big := by
  unfold changesS
  split
  · exact Nat.zero_le _
  · split
    · exact Nat.zero_le _
    · rw [← ins2_all]
      have h1 := ins2_len (foldS l f).1 (foldS l t).1 (flatP (foldS l f).1)
      have h2 := fine_flat (foldS_fine l f) (foldS l f).1.length
      have h3 := fine_flat (foldS_fine l t) (foldS l t).1.length
      rw [flat_all] at h2 h3
      show (ins2 (foldS l f).1 (foldS l t).1 (flatP (foldS l f).1)).length ≤ big
      unfold big
      omega
set_option maxRecDepth 100000 in
set_option maxHeartbeats 1000000 in
theorem historyChanges_walk (w : World) {A : Option Addr} {l : List Cm} {c : Nat} (h : Cs All w A l ∧ l.length * 32 ≤ 140737488355328) {f : Int} (_ : (Lit.int .i64 f).wf = true) {t : Int} (_ : (Lit.int .i64 t).wf = true) :
    Calls Tryz.prog 3 #[.slice A l.length c, .int .i64 f, .int .i64 t] w (RetV w (.bool true)) := by
  obtain ⟨ha, hn⟩ := h
  have Ha := Lib.hid ha
  obtain ⟨r, hr⟩ : ∃ r, r = changesS l f t := ⟨_, rfl⟩
  have hrl : r.1.length ≤ big := by rw [hr]; exact changesS_len l f t
  have hll : l.length ≤ big := by unfold big; omega
  have Hp := Lib.hid (show ∀ (W : World) (A : Option Addr) (c : Nat), Cs All W A l → Calls Tryz.prog 5 #[.slice A l.length c, .int .i64 f, .int .i64 t] W (RetWsE W r) from fun W A c h => by rw [hr]; exact changes_ok W A l c f t h)
  have Hq := Lib.hid (show ∀ (W : World) (A : Option Addr) (c : Nat), Cs All W A l → Calls Tryz.prog 6 #[.slice A l.length c, .int .i64 f, .int .i64 t] W (RetWsE W r) from fun W A c h => by rw [hr]; exact changesOf_ok W A l c f t h)
  clear ha hr
  go_enter Tryz.func3, Tryz.ntmps3
  go_wp2_with (first
    | (go_at_call 4; refine (commits_ok _ A l c Ha.out hn).mono ?_; rintro e w1 ⟨A1, c1, rfl, _, hs1, hb1⟩)
    | (go_at_call 5; refine (Hp.out _ A1 c1 (hs1.z cmR_stays)).mono ?_; rintro e w2 ⟨A2, c2, rfl, hs2, hb2⟩; have hb12 := hb1.next hb2 hb1.size)
    | (go_at_call 6; refine (Hq.out _ A c (Ha.out.below cmR_stays hb12)).mono ?_; rintro e w3 ⟨A3, c3, rfl, hs3, hb3⟩; have hb13 := hb12.next hb3 hb12.size)
    | (go_at_call 7; refine (sameWrites_ok _ A2 A3 r.1 c2 c3 ((hs2.z wrR_stays).below wrR_stays hb3) (hs3.z wrR_stays) hrl).mono ?_; rintro e w4 ⟨rfl, hb4⟩; have hb14 := hb13.next hb4 hb13.size)
    | (go_at_call 8; refine (sameCommits_ok _ A1 A l c1 c ((((hs1.z cmR_stays).below cmR_stays hb2).below cmR_stays hb3).below cmR_stays hb4) (Ha.out.below cmR_stays hb14) hll).mono ?_; rintro e w5 ⟨rfl, hb5⟩; have hb15 := hb14.next hb5 hb14.size))
  go_ret
  exact ⟨by simp, hb15⟩
end Go.Proofs.YthohkgggodhbcaaGreat
