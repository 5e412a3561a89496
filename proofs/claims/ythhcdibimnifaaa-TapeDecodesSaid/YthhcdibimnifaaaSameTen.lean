/- Walk: sameTenants. -/
import Derived.Test.YthhcdibimnifaaaTen
import Derived.Test.YthhcdibimnifaaaCopy
import Derived.Test.YthhcdibimnifaaaChunk
namespace Go.Proofs.Ythhcdibimnifaaa
open Go.RowKit
set_option linter.unusedVariables false
set_option linter.unusedSimpArgs false

set_option maxRecDepth 100000 in
set_option maxHeartbeats 1000000 in
theorem sameTenants_ok (w : World) (A B : Option Addr) (l : List Tn) (c d : Nat) (ha : Ts All w A l) (hb : Ts All w B l) (hn : l.length ≤ big) :
    Calls Try.prog 46 #[.slice A l.length c, .slice B l.length d] w (RetV w (.bool true)) := by
  unfold big at hn
  have Ha := Lib.hid ha
  have Hb := Lib.hid hb
  clear ha hb
  go_enter Try.func46, Try.ntmps46
  go_wp2
  go_loopw [5] (fun i wr => ∃ k : Nat, k ≤ l.length ∧ i = .int .i64 k ∧ Below w.heap.size w wr) (fun i _ => l.length - (intOf i).toNat)
  case atStart => exact ⟨0, by omega, rfl, Below.refl _ _⟩
  case round =>
    obtain ⟨k, hk, rfl, hbel⟩ := hrel
    have Hbel := Lib.hid hbel
    have hbz := hbel.size
    clear hbel
    by_cases hlt : k < l.length
    · obtain ⟨ab, ao, K, c1, V, d1, rfl, _, hal, hc1, hc2, hs1, hs2, _, h48, _⟩ := tens_at (Ha.out.below tenR_stays Hbel.out) hlt
      obtain ⟨bb, bo, K', c1', V', d1', rfl, _, hbl, hc3, hc4, hs3, hs4, _, _, _⟩ := tens_at (Hb.out.below tenR_stays Hbel.out) hlt
      generalize l[k] = x at *
      have hi0 : (0 : Int) ≤ (k : Int) := by omega
      have hi1 : (k : Int) < (l.length : Int) := by omega
      have e1 : (x.1 == x.1) = true := by simp
      have hxb : x.2.length ≤ big := by unfold big; omega
      go_wp2_with fail
      go_region_held3 (fun w' => w'.cell? ⟨ab, ao + k * 2, none⟩ = some (.slice K x.1.length c1) ∧ w'.cell? ⟨ab, ao + k * 2 + 1, none⟩ = some (.slice V x.2.length d1) ∧ w'.cell? ⟨bb, bo + k * 2, none⟩ = some (.slice K' x.1.length c1') ∧ w'.cell? ⟨bb, bo + k * 2 + 1, none⟩ = some (.slice V' x.2.length d1'))
        (first
          | go_keep
          | (go_split_ands; refine ⟨(hbw2.cell (by simp; omega)).trans (by assumption), (hbw2.cell (by simp; omega)).trans (by assumption), (hbw2.cell (by simp; omega)).trans (by assumption), (hbw2.cell (by simp; omega)).trans (by assumption)⟩))
        (first
          | (go_at_call 53; refine (sameBytes_ok _ K K' x.1 x.1 c1 c1' (hs1.bz.bsame (by repeat' (first | exact Same.refl _ _ | assumption | refine Same.drew ?_ | refine Same.drewN ?_ _ | refine Same.alloc ?_ _ | refine Same.setCell ?_ (fun hq => by simp only [From] at hq; first | omega | (simp at hq; done) | (simp at hq; omega)) _))) (hs3.bz.bsame (by repeat' (first | exact Same.refl _ _ | assumption | refine Same.drew ?_ | refine Same.drewN ?_ _ | refine Same.alloc ?_ _ | refine Same.setCell ?_ (fun hq => by simp only [From] at hq; first | omega | (simp at hq; done) | (simp at hq; omega)) _)))).mono ?_; rintro e w3 ⟨rfl, rfl⟩)
          | (go_at_call 30; refine (samePairs_ok _ V V' x.2 d1 d1' ((hs2.z pairR_stays).same pairR_stays (by repeat' (first | exact Same.refl _ _ | assumption | refine Same.drew ?_ | refine Same.drewN ?_ _ | refine Same.alloc ?_ _ | refine Same.setCell ?_ (fun hq => by simp only [From] at hq; first | omega | (simp at hq; done) | (simp at hq; omega)) _))) ((hs4.z pairR_stays).same pairR_stays (by repeat' (first | exact Same.refl _ _ | assumption | refine Same.drew ?_ | refine Same.drewN ?_ _ | refine Same.alloc ?_ _ | refine Same.setCell ?_ (fun hq => by simp only [From] at hq; first | omega | (simp at hq; done) | (simp at hq; omega)) _))) hxb).mono ?_; rintro e w2 ⟨rfl, hbw2⟩))
      go_wp2
      go_roundw
      case rel => exact ⟨k + 1, by omega, by go_num, Hbel.out.drew.next hbw2 (by simp; omega)⟩
      case measure => simp [intOf]; omega
    · go_wp2
      go_ret
      exact ⟨rfl, Hbel.out⟩
end Go.Proofs.Ythhcdibimnifaaa
