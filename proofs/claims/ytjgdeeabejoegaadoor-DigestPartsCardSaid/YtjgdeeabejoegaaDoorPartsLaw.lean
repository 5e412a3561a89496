/- The law DigestParts: its walk. -/
import Derived.Test.YtjgdeeabejoegaaDoorParts
import Derived.OpenShut
namespace Go.Proofs.YtjgdeeabejoegaaDoor
open Go.RowKit
set_option linter.unusedVariables false
set_option linter.unusedSimpArgs false

theorem info_bl : (Tryd.prog.info? 22).map (fun i => (i.zero, i.size, i.bytes)) = some (some (.slice none 0 0), 1, 24) := by kernel_rfl
set_option maxRecDepth 100000 in
set_option maxHeartbeats 4000000 in
theorem digestParts_walk (w : World) (hT : TabsAt w) {x : Int} {A : Option Addr} {l : List (List UInt8)} {c : Nat} (hx : (Lit.int .u8 x).wf = true) (h : Bls All w A l ∧ l.length * 24 ≤ 140737488355328) :
    Calls Tryd.prog 6 #[.int .u8 x, .slice A l.length c] w (RetV w (.bool true)) := by
  obtain ⟨i0, hi0, hz0, hz1, hz2⟩ := info_parts info_bl
  have hb := bounds_u8 hx
  obtain ⟨kb, rfl⟩ : ∃ kb : UInt8, x = (kb.toNat : Int) := ⟨UInt8.ofNat x.toNat, by
    have : (UInt8.ofNat x.toNat).toNat = x.toNat := by simp; omega
    rw [this]
    omega⟩
  have HT := Lib.hid hT
  have Ha := Lib.hid h.1
  have hn := h.2
  clear hT h hx hb
  generalize hr : partsS kb l = r
  have Hr := Lib.hid hr
  clear hr
  go_enter Tryd.func6, Tryd.ntmps6
  go_wp2
  go_loopw [5, 6] (fun v i wr => ∃ k : Nat, k ≤ l.length ∧ i = .int .i64 k ∧ Own 1 BlR (From w.heap.size) wr w.heap.size 22 v (l.take k) ∧ Below w.heap.size w wr) (fun _ i _ => l.length - (intOf i).toNat)
  case atStart => exact ⟨0, by omega, rfl, Own.nil _ _ _, Below.refl _ _⟩
  case round =>
    obtain ⟨k, hk, rfl, hown, hbel⟩ := hrel
    have Hbel := Lib.hid hbel
    have Hown := Lib.hid hown
    clear hown hbel
    by_cases hlt : k < l.length
    · have hki : (k : Int) < (l.length : Int) := by omega
      have mk : IntKind.i64.wrap ((k : Int) + 1) = (k : Int) + 1 := IntWalk.i64_in _ (by omega)
      obtain ⟨ab, ao, K, cp, rfl, _, hal, hcell, hs, hpb⟩ := bls_at (Ha.out.below blR_stays Hbel.out) hlt
      have Hs := Lib.hid hs
      have Hsn := Lib.hid (take_snoc l k hlt)
      generalize l[k] = p at *
      clear hs
      go_wp2_with (first
        | (go_at_call 18; (with_reducible refine (octets_ok _ K p cp ?ha hpb).mono ?_); (case ha => exact Hs.out.bz); rintro e w1 ⟨A1, c2, rfl, gs1, hbw1⟩)
        | (at_builtin; refine wpl_snoc blR_stays (S := From w.heap.size) _ rfl _ _ _ rfl w.heap.size 22 i0 _ 1 24 Tryd.underlying44 hi0 hz0 hz1 hz2 rfl (by decide) _ (l.take k) rfl ?hown _ _ [.slice A1 p.length c2] rfl rfl (new_src _ _ [.slice A1 p.length c2] _ (by simp)) (by simp [Value.oneCell']) ?hm ?hby ?hba p ?hd ?_; (case hown => exact (Hown.out.below blR_stays hbw1).same blR_stays ((Same.refl _ _).alloc _)); (case hm => simp only [List.length_take, maxLen]; omega); (case hby => simp only [List.length_take]; omega); (case hba => have hz1 := Hbel.out.size; have hz2 := hbw1.size; simp; omega); (case hd => exact ⟨A1, c2, rfl, (gs1.bsame ((Same.refl _ _).alloc _)).bless fun b _ hs => ⟨Nat.le_trans Hbel.out.size hs, Hown.out.apart _ (Nat.le_refl _) b hs⟩, hpb⟩); intro v1 w2 hown2 hbw2))
      go_roundw
      case rel => exact ⟨k + 1, by omega, by go_num, by rw [Hsn.out]; exact hown2, ((Hbel.out.next hbw1 Hbel.out.size).alloc (by have hz1 := Hbel.out.size; have hz2 := hbw1.size; omega) _).trans hbw2⟩
      case measure => simp [intOf]; omega
    · have hki : ¬ (k : Int) < (l.length : Int) := by omega
      obtain ⟨A', c', rfl, hsl⟩ : ∃ A' c', u5 = .slice A' l.length c' ∧ Bls (From w.heap.size) wr A' l := by
        have h := Hown.out
        rw [show k = l.length by omega, List.take_length] at h
        exact h.read blR_stays
      clear hlt hk Hown
      have hp := parts_ok wr (HT.out.below Hbel.out) kb A' l c' (hsl.z blR_stays) hn
      rw [Hr.out] at hp
      go_wp2_with (first
        | (go_at_call 22; (with_reducible refine hp.mono ?_); rintro e w1 ⟨B, d, rfl, hs1, hb1⟩)
        | (go_at_call 23; (with_reducible refine (partsOf_ok' _ kb A l c ?ha hn).mono ?_); (case ha => exact (Ha.out.below blR_stays Hbel.out).below blR_stays hb1); rw [Hr.out]; rintro e2 w2 ⟨B2, d2, rfl, hs2, hb2⟩)
        | (go_at_call 21; (with_reducible refine (sameBytes_ok _ B B2 r.1 r.1 d d2 ?ha ?hb).mono ?_); (case ha => exact (hs1.bbelow hb2).bz); (case hb => exact hs2.bz); rintro e4 w4 ⟨rfl, rfl⟩))
      go_ret
      exact ⟨by simp, (Hbel.out.next hb1 Hbel.out.size).next hb2 (Nat.le_trans Hbel.out.size hb1.size)⟩
end Go.Proofs.YtjgdeeabejoegaaDoor
