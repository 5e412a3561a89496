/- Walks of the low laws: keys, pairs. -/
import Derived.Test.YtdhbnhjgbcipkaaPairs
namespace Go.Proofs.Ytdhbnhjgbcipkaa
open Go.RowKit

set_option maxHeartbeats 400000 in
theorem treeChecks_walk (w : World) {A : Option Addr} {l : List Pr} {c : Nat} (h : Ps All w A l ∧ l.length * 48 ≤ 140737488355328) :
    Calls Try.prog 12 #[.slice A l.length c] w (RetV w (.bool true)) := by
  have H := Lib.hid h
  clear h
  go_enter Try.func12, Try.ntmps12
  go_wp2_with (first
    | (go_at_call 33; go_in)
    | (go_at_call 45; refine (pairsCopy_ok _ A l c H.out.1 H.out.2).mono ?_; rintro e w1 ⟨A1, c1, rfl, hs1, hb1⟩)
    | (go_at_call 32; refine (treeCheck_ok _ A1 l c1 (hs1.z pairR_stays)).mono ?_; rintro e w2 ⟨rfl, hb2⟩)
    | (go_at_call 34; refine (pairsFault_ok _ A l c (H.out.1.below pairR_stays (hb1.next hb2 hb1.size))).mono ?_; rintro e w3 ⟨rfl, hb3⟩))
  go_ret
  exact ⟨by simp, (hb1.next hb2 hb1.size).next hb3 (by have := hb1.size; have := hb2.size; omega)⟩
end Go.Proofs.Ytdhbnhjgbcipkaa
