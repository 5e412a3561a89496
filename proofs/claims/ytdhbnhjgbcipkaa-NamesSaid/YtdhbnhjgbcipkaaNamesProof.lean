/- The statement of Names. No condition. -/
import Derived.Test.YtdhbnhjgbcipkaaRows
import Derived.ProofKit
import Derived.OpenShut
import Derived.ShutString
import Derived.Test.YtdhbnhjgbcipkaaProg
import Derived.WalkKit
import Derived.Outline
import Derived.Deep.QuietTactic
import Derived.BigQuiet
import Derived.Lib.Hide
import Derived.WalkSmall
namespace Go.Proofs.Ytdhbnhjgbcipkaa.names
open Go.RowKit Go.ChangeShapes Go.WideShapes Go.ChangeAt
def iv (l : List Int) : Array Value := (l.map (Value.int .i64)).toArray
theorem iv_cell (w : World) (l : List Int) (t : TypeId) (k : Nat) (h : k < l.length) : (w.alloc (.cells (iv l) t)).cell? ⟨w.heap.size, k, none⟩ = some (.int .i64 (l.getD k 0)) := by
  have e : (w.alloc (.cells (iv l) t)).heap[w.heap.size]? = some (.cells (iv l) t) := heap_alloc_new w _
  simp only [World.cell?, e]
  simp [iv, h]
/-- A new block of constants, and what is known of it. -/
theorem new_iv (w : World) (l : List Int) (t : TypeId) : ∃ w1, w.alloc (.cells (iv l) t) = w1 ∧ (∀ k < l.length, w1.cell? ⟨w.heap.size, k, none⟩ = some (.int .i64 (l.getD k 0))) ∧ Below w.heap.size w w1 ∧ w1.heap.size = w.heap.size + 1 :=
  ⟨_, rfl, fun k hk => iv_cell w l t k hk, (Below.refl _ _).alloc (Nat.le_refl _) _, by simp⟩
def nums : List Int := [0, 1, 2, 3, 4, 5, 6, 7, 8, 9, 10, 11, 12, 13, 14]
theorem nums_at (k : Nat) (h : k < 15) : nums.getD k 0 = k := by
  have : ∀ k < 15, nums.getD k 0 = (k : Int) := by decide
  exact this k h
def want : List Int := [1, 2, 3, 4, 5, 6, 7, 8, 1, 2, 3, 4, 4000, 16, 32, 60, 8, 8, 145, 200000, 6, 1048576, 20, 10, 8, 300, 6, 100000, 2000000]
theorem walk  (w : World) :
    Calls Try.prog 3 #[] w fun e w' => e = .returned (.bool true) ∧ Below w.heap.size w w' := by
  go_enter Try.func3, Try.ntmps3
  go_wp2
  obtain ⟨w1, e1, hc, hb, hs⟩ := new_iv w nums 22
  simp only [iv, nums, List.map] at e1
  rw [e1]
  have Hc := Lib.hid hc
  have Hb := Lib.hid hb
  have Hs := Lib.hid hs
  clear hc hb hs e1
  go_loop [2] (fun i => ∃ k : Nat, k ≤ 15 ∧ i = .int .i64 k) (fun i => 15 - (intOf i).toNat)
  case atStart => exact ⟨0, by omega, rfl⟩
  case round =>
    obtain ⟨k, hk, rfl⟩ := hrel
    by_cases hlt : k < 15
    · have hc' := Hc.out k hlt
      rw [nums_at k hlt] at hc'
      go_wp2
      go_round
      case rel => exact ⟨k + 1, by omega, by go_num⟩
      case measure => simp [intOf]; omega
    · clear Hc
      go_wp2
      obtain ⟨w2, e2, hc2, hb2, hs2⟩ := new_iv w1 want 3
      simp only [iv, want, List.map] at e2
      rw [e2]
      rw [← hs2]
      obtain ⟨w3, e3, hc3, hb3, hs3⟩ := new_iv w2 want 3
      simp only [iv, want, List.map] at e3
      rw [e3]
      have Hb2 := Lib.hid hb2
      have Hb3 := Lib.hid hb3
      have Hc2 : ∀ k < want.length, w3.cell? ⟨w1.heap.size, k, none⟩ = some (.int .i64 (want.getD k 0)) := fun k hk => by rw [← hc2 k hk]; exact hb3.cell (p := ⟨w1.heap.size, k, none⟩) (by simp only []; omega)
      have HC2 := Lib.hid Hc2
      have Hs2 := Lib.hid hs2
      have HC3 := Lib.hid hc3
      clear hb2 hb3 hc2 hc3 Hc2 hs2 hs3 e2 e3
      generalize hwl : want = wl at *
      have hwl' : wl.length = 29 := by rw [← hwl]; rfl
      have Hwl := Lib.hid hwl'
      clear hwl hwl'
      go_loopw [5] (fun i wr => ∃ k n : Nat, k ≤ 29 ∧ i = .int .i64 k ∧ wr = w3.drewN n) (fun i _ => 29 - (intOf i).toNat)
      case atStart => exact ⟨0, 0, by omega, rfl, rfl⟩
      case round =>
        obtain ⟨j, n, hj, rfl, rfl⟩ := hrel
        by_cases hjt : j < 29
        · have hc2 := HC2.out j (by rw [Hwl.out]; exact hjt)
          have hc3 := HC3.out j (by rw [Hwl.out]; exact hjt)
          go_wp2
          go_quiet (fail)
          go_wp2
          go_roundw
          case rel => exact ⟨j + 1, _, by omega, by go_num, rfl⟩
          case measure => simp [intOf]; omega
        · go_wp2
          go_ret
          refine ⟨rfl, below_drewN ?_ _⟩
          exact ((Hb.out.trans (Hb2.out.mono (by have := Hs.out; omega))).trans (Hb3.out.mono (by have := Hs.out; have := Hs2.out; omega)))
theorem own : ownKnob Try.prog.godebug = none := by kernel_rfl
set_option maxRecDepth 100000 in
theorem lifted (os : Os) (started : os.Started) (H : Type) (enc : TypeId × Value → H) :
    ReturnsInHanded {} Try.checked os 3 .any (Rows.namesSpec.pre6 enc Try.prog Try.f3 Rows.namesRow.domain false) (Rows.namesSpec.post enc Try.prog Try.f3 false true false false) := by
  refine returnsInHanded_of_change (C := Try.checked) own started (by kernel_rfl) Try.func3
    (ChangeSpec.witness6 (enc := enc) (C := Try.checked) false ⟨#[], #[], []⟩ 8 (by kernel_rfl) (by kernel_rfl) (by kernel_rfl) (by kernel_rfl)) ?_
  intro W base args ds gs before hval0 hW hcnd _
  have hval : ∀ (j : Nat) t v, Try.f3.params[j]? = some t → args[j]? = some v → Value.okWide Try.prog W .any base t v := hval0
  have hW' := hW
  obtain ⟨p, q, hA0, hV, rfl, hfz, hnd⟩ := hW
  have hA : DataW.TrodAll enc Try.prog W 0 (fun _ => true) true Try.f3.params.toList args.toList ds p := hA0
  rw [Try.params3] at hA hval
  obtain ⟨rfl, rfl, rfl⟩ := trodAll_none hA
  obtain ⟨rfl, rfl⟩ := trodVars_none hV
  clear hA0 hval0
  simp only [List.append_nil] at hW'
  refine (walk  W).mono fun e W' ⟨he, bel⟩ => ?_
  subst he
  exact ⟨_, rfl, _, _, _, [], _, [], hW', trodAll_mk1 (shut_bool Try.underlying4 _), trodAll_mk0, rfl, bel.frame _, fun h => by cases h⟩

theorem over : Rows.namesRow.holds Try.pinned (OpenSpec.ofChange Rows.namesSpec) :=
  OpenClaim.holds_of_wide 3 Try.f3 rfl rfl rfl rfl rfl rfl rfl ⟨rfl, rfl, rfl, rfl, rfl⟩ rfl rfl rfl rfl rfl (by kernel_rfl) Try.func3 (by kernel_rfl)
    (of_decide_eq_true (by kernel_rfl)) (by unfold Func.isWrapper; first | (rw [if_pos (by decide +kernel)]; kernel_rfl) | (rw [if_neg (by decide +kernel)]; exact ⟨rfl, rfl⟩))
    (fun os started H enc _ => lifted os started H enc)

/-- ████ THE STATEMENT ████ -/
theorem proved : Rows.NamesSaid :=
  over
#print axioms proved
end Go.Proofs.Ytdhbnhjgbcipkaa.names
