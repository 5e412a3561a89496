/- The walk of TreeRanges. -/
import Derived.Test.YthhcdibimnifaaaRange
namespace Go.Proofs.Ythhcdibimnifaaa
open Go.RowKit

theorem rangeS_len (l : List Pr) (k m : List UInt8) : (rangeS l k m).1.length ≤ l.length := by
  unfold rangeS
  split
  · simp
  · exact List.length_filter_le _ _
set_option maxRecDepth 100000 in
set_option maxHeartbeats 1000000 in
theorem treeRanges_walk (w : World) {A : Option Addr} {l : List Pr} {c : Nat} (h : Ps All w A l ∧ l.length * 48 ≤ 140737488355328) {K : Option Addr} {k : List UInt8} {c1 : Nat} (h' : Bs All w K k ∧ k.length ≤ big)
    {M : Option Addr} {m : List UInt8} {d1 : Nat} (h'' : Bs All w M m ∧ m.length ≤ big) :
    Calls Try.prog 4 #[.slice A l.length c, .slice K k.length c1, .slice M m.length d1] w (RetV w (.bool true)) := by
  have hlen : l.length ≤ big := by have := h.2; unfold big; omega
  have Hlen := Lib.hid hlen
  have Hlr := Lib.hid (Nat.le_trans (rangeS_len l k m) hlen)
  have H := Lib.hid h
  have H' := Lib.hid h'
  have H'' := Lib.hid h''
  clear h h' h'' hlen
  go_enter Try.func4, Try.ntmps4
  go_wp2_with (first
    | (go_at_call 24; go_in)
    | (go_at_call 87; refine (pairsCopy_cap _ A l c H.out.1 H.out.2).mono ?_; rintro e w1 ⟨A1, c2, rfl, hcap, hs1, hb1⟩; have Hcap := Lib.hid hcap; clear hcap)
    | (go_at_call 25; (with_reducible refine (octets_ok _ K k c1 ?hx H'.out.2).mono ?_); (case hx => exact H'.out.1.bbelow hb1); rintro e w2 ⟨A2, c3, rfl, hs2, hb2⟩)
    | (go_at_call 25; (with_reducible refine (octets_ok _ M m d1 ?hx H''.out.2).mono ?_); (case hx => exact H''.out.1.bbelow (hb1.next hb2 hb1.size)); rintro e w3 ⟨A3, c4, rfl, hs3, hb3⟩)
    | (go_at_call 28; refine (treeRange_ok _ A1 l c2 A2 k c3 A3 m c4 ((hs1.z pairR_stays).below pairR_stays (hb2.next hb3 hb2.size)) (hs2.bz.bbelow hb3) hs3.bz Hcap.out).mono ?_; rintro e w4 ⟨A4, c5, rfl, hs4, hb4⟩; have hb123 : Below w.heap.size w w3 := (hb1.next hb2 hb1.size).next hb3 (by have := hb1.size; have := hb2.size; omega); have hb1234 := hb123.next hb4 hb123.size)
    | (go_at_call 29; refine (rangeOf_ok _ A l c K k c1 M m d1 (H.out.1.below pairR_stays hb1234) (H'.out.1.bbelow hb1234) (H''.out.1.bbelow hb1234)).mono ?_; rintro e w5 ⟨A5, c6, rfl, hs5, hb5⟩)
    | (go_at_call 30; (with_reducible refine (samePairs_ok _ A4 A5 (rangeS l k m).1 c5 c6 ?hx ?hy Hlr.out).mono ?_); (case hx => exact (hs4.z pairR_stays).below pairR_stays hb5); (case hy => exact hs5.z pairR_stays); rintro e w6 ⟨rfl, hb6⟩)
    | (go_at_call 30; (with_reducible refine (samePairs_ok _ A1 A l c2 c ?hx ?hy Hlen.out).mono ?_); (case hx => exact ((hs1.z pairR_stays).below pairR_stays (hb2.next hb3 hb2.size)).below pairR_stays ((hb4.next hb5 hb4.size).next hb6 (by have := hb4.size; have := hb5.size; omega))); (case hy => exact H.out.1.below pairR_stays ((hb1234.next hb5 hb1234.size).next hb6 (by have := hb1234.size; have := hb5.size; omega))); rintro e w7 ⟨rfl, hb7⟩))
  go_ret
  exact ⟨by simp, ((hb1234.next hb5 hb1234.size).next hb6 (by have := hb1234.size; have := hb5.size; omega)).next hb7 (by have := hb1234.size; have := hb5.size; have := hb6.size; omega)⟩
end Go.Proofs.Ythhcdibimnifaaa
