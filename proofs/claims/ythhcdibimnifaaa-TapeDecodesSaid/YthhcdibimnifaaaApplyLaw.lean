/- The law ForestApplies: its walk. -/
import Derived.Test.YthhcdibimnifaaaApply
import Derived.Test.YthhcdibimnifaaaSameTen
namespace Go.Proofs.Ythhcdibimnifaaa
open Go.RowKit
set_option linter.unusedVariables false
set_option linter.unusedSimpArgs false

theorem writes_ok (w : World) (A : Option Addr) (l : List Wr) (c : Nat) (ha : Ws All w A l) (hn : l.length * 80 ≤ 140737488355328) :
    Calls Try.prog 43 #[.slice A l.length c] w (RetSLc 4 WrR w l) :=
  (writes_own w A l c ha hn).mono fun _ _ ⟨_, he, h, hb⟩ => by
    obtain ⟨A', c', rfl, hcap, hsl⟩ := h.readc wrR_stays
    exact ⟨A', c', he, hcap, hsl, hb⟩
set_option maxRecDepth 100000 in
set_option maxHeartbeats 1000000 in
theorem forestApplies_walk (w : World) {A : Option Addr} {l : List Tn} {c : Nat} (h : Ts All w A l ∧ l.length * 48 ≤ 140737488355328) {B : Option Addr} {ws : List Wr} {d : Nat} (h' : Ws All w B ws ∧ ws.length * 80 ≤ 140737488355328) :
    Calls Try.prog 10 #[.slice A l.length c, .slice B ws.length d] w (RetV w (.bool true)) := by
  have Hlen := Lib.hid (show l.length ≤ big by have := h.2; unfold big; omega)
  have Hlw := Lib.hid (show ws.length ≤ big by have := h'.2; unfold big; omega)
  have Hlr := Lib.hid (show (appliedS l ws).1.length ≤ big by have := (appliedS_fine l ws).len; unfold big; omega)
  have H := Lib.hid h
  have H' := Lib.hid h'
  clear h h'
  go_enter Try.func10, Try.ntmps10
  go_wp2_with (first
    | (go_at_call 37; go_in)
    | (go_at_call 104; refine (forestCopy_ok _ A l c H.out.1 H.out.2).mono ?_; rintro e w1 ⟨A1, c1, rfl, _, hs1, hb1⟩; have hz1 := hb1.size)
    | (go_at_call 43; refine (writes_ok _ B ws d (H'.out.1.below wrR_stays hb1) H'.out.2).mono ?_; rintro e w2 ⟨B2, d2, rfl, _, hs2, hb2⟩; have hb02 := hb1.next hb2 hz1; have hz2 := hb02.size)
    | (go_at_call 44; refine (forestApply_ok _ A1 l c1 B2 ws d2 ((hs1.z tenR_stays).below tenR_stays hb2) (hs2.z wrR_stays)).mono ?_; rintro e w3 ⟨A3, c3, rfl, _, hs3, hb3⟩; have hb03 := hb02.next hb3 hz2; have hz3 := hb03.size; have hz23 := hb3.size)
    | (go_at_call 45; refine (applied_ok _ A l c B ws d (H.out.1.below tenR_stays hb03) (H'.out.1.below wrR_stays hb03)).mono ?_; rintro e w4 ⟨A4, c4, rfl, _, hs4, hb4⟩; have hb04 := hb03.next hb4 hz3; have hz4 := hb04.size; have hz34 := hb4.size)
    | (go_at_call 46; (with_reducible refine (sameTenants_ok _ A3 A4 (appliedS l ws).1 c3 c4 ?hx ?hy Hlr.out).mono ?_); (case hx => exact (hs3.z tenR_stays).below tenR_stays hb4); (case hy => exact hs4.z tenR_stays); rintro e w5 ⟨rfl, hb5⟩; have hb05 := hb04.next hb5 hz4; have hz5 := hb05.size; have hz45 := hb5.size)
    | (go_at_call 46; (with_reducible refine (sameTenants_ok _ A1 A l c1 c ?hx ?hy Hlen.out).mono ?_); (case hx => exact ((((hs1.z tenR_stays).below tenR_stays hb2).below tenR_stays hb3).below tenR_stays hb4).below tenR_stays hb5); (case hy => exact H.out.1.below tenR_stays hb05); rintro e w6 ⟨rfl, hb6⟩; have hb06 := hb05.next hb6 hz5; have hz6 := hb06.size)
    | (go_at_call 47; (with_reducible refine (sameWrites_ok _ B2 B ws d2 d ?hx ?hy Hlw.out).mono ?_); (case hx => exact ((((hs2.z wrR_stays).below wrR_stays hb3).below wrR_stays hb4).below wrR_stays hb5).below wrR_stays hb6); (case hy => exact H'.out.1.below wrR_stays hb06); rintro e w7 ⟨rfl, hb7⟩; have hb07 := hb06.next hb7 hz6))
  go_ret
  exact ⟨by simp, hb07⟩
end Go.Proofs.Ythhcdibimnifaaa
