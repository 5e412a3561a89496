/- Walks: lanes of the references: power, turned, column. -/
import Derived.Test.YtjgdeeabejoegaaDoorKecV
import Derived.Test.YtjgdeeabejoegaaDoorBytes
namespace Go.Proofs.YtjgdeeabejoegaaDoor
open Go.RowKit
set_option linter.unusedVariables false
set_option linter.unusedSimpArgs false

/-- One cell: a lane with its sign. -/
def LnR (_ : Nat → Prop) (_ : World) (cs : List Value) (x : Ln) : Prop := cs = [.int .i64 (iv x)]
theorem lnR_stays : Stays LnR := ⟨fun _ _ _ _ _ _ h => h, fun _ _ _ _ _ _ h => h⟩
abbrev Lns (S : Nat → Prop) (w : World) (A : Option Addr) (l : List Ln) : Prop := SL 1 LnR S w A l
theorem lns_at {S : Nat → Prop} {w : World} {A : Option Addr} {l : List Ln} (h : Lns S w A l) (hl : 0 < l.length) :
    ∃ b off, A = some ⟨b, off, none⟩ ∧ S b ∧ b < w.heap.size ∧ ∀ k, k < l.length → w.cell? ⟨b, off + k, none⟩ = some (.int .i64 (iv (ga l k))) := by
  obtain ⟨b, off, e, h0, h1, hi⟩ := h hl
  refine ⟨b, off, e, h0, h1, fun k hk => ?_⟩
  obtain ⟨cs, _, h2, h3⟩ := hi k hk
  have h4 : cs = [.int .i64 (iv l[k])] := h3
  subst h4
  have h5 := h2 0 (by omega)
  rw [Nat.mul_one, Nat.add_zero] at h5
  rw [h5, ga, List.getD_eq_getElem?_getD, List.getElem?_eq_getElem hk]
  rfl
/-- The cells of lanes. -/
def lc (l : List Ln) : Array Value := (l.map fun x => Value.int .i64 (iv x)).toArray
theorem lc_size (l : List Ln) : (lc l).size = l.length := by simp [lc]
theorem lc_set (l : List Ln) (i : Nat) (x : Ln) : (lc l).setIfInBounds i (.int .i64 (iv x)) = lc (l.set i x) := by
  unfold lc
  rw [List.setIfInBounds_toArray, List.map_set]
theorem lc_cell {w : World} {g : Nat} {t : TypeId} {l : List Ln} (h : w.heap[g]? = some (.cells (lc l) t (0, 0))) {k : Nat} (hk : k < l.length) : w.cell? ⟨g, k, none⟩ = some (.int .i64 (iv (ga l k))) := by
  rw [box_cell (cs := l.map fun x => Value.int .i64 (iv x)) h k, List.getElem?_map, List.getElem?_eq_getElem hk, ga, List.getD_eq_getElem?_getD, List.getElem?_eq_getElem hk]
  rfl
theorem lc_free {w : World} {g : Nat} {t : TypeId} {l : List Ln} (h : w.heap[g]? = some (.cells (lc l) t (0, 0))) (k : Nat) : w.frozen? ⟨g, k, none⟩ = false := box_frozen (cs := l.map fun x => Value.int .i64 (iv x)) h k
theorem lns_block {S : Nat → Prop} {w : World} {g : Nat} {t : TypeId} {l : List Ln} (h : w.heap[g]? = some (.cells (lc l) t (0, 0))) (hS : S g) : Lns S w (some ⟨g, 0, none⟩) l := by
  intro _
  refine ⟨g, 0, rfl, hS, (Array.getElem?_eq_some_iff.1 h).1, fun i hi => ⟨[.int .i64 (iv l[i])], rfl, fun j hj => ?_, rfl⟩⟩
  obtain rfl : j = 0 := by omega
  have := lc_cell h hi
  rw [Nat.zero_add, Nat.mul_one, Nat.add_zero, this, ga, List.getD_eq_getElem?_getD, List.getElem?_eq_getElem hi]
  rfl
/-- Mixed so far: the first n lanes of one x. -/
def colT (s : List Ln) (x : Nat) : Nat → Ln
  | 0 => 0
  | n + 1 => colT s x n ^^^ ga s (x + 5 * n)
theorem colT_five (s : List Ln) (x : Nat) : colT s x 5 = colS s x := by simp [colT, colS]
set_option maxRecDepth 100000 in
set_option maxHeartbeats 1000000 in
theorem power_ok (w : World) (n : Nat) (hn : n ≤ 64) :
    Calls Tryd.prog 122 #[.int .i64 n] w (fun e w' => e = .returned (.int .i64 (iv (pw n))) ∧ w' = w) := by
  go_enter Tryd.func122, Tryd.ntmps122
  have h1 : (1 : Int) = iv (pw 0) := rfl
  go_wp2
  go_loopw [3, 4] (fun p i wr => ∃ k : Nat, k ≤ n ∧ i = .int .i64 k ∧ p = .int .i64 (iv (pw k)) ∧ wr = w) (fun _ i _ => n - (intOf i).toNat)
  case atStart => exact ⟨0, by omega, rfl, rfl, rfl⟩
  case round =>
    obtain ⟨k, hk, rfl, rfl, rfl⟩ := hrel
    have Hn := Lib.hid (pw_next k)
    by_cases hlt : k < n
    · go_wp2
      go_roundw
      case rel =>
        refine ⟨k + 1, by omega, by go_num, ?_, trivial⟩
        rw [← Hn.out, IntWalk.i64_left]
      case measure => simp [intOf]; omega
    · obtain rfl : k = n := by omega
      go_wp2
      go_ret
      exact ⟨rfl, rfl⟩
set_option maxRecDepth 100000 in
set_option maxHeartbeats 1000000 in
theorem turned_ok (w : World) (x : Ln) (n : Nat) (hn : n < 64) :
    Calls Tryd.prog 124 #[.int .i64 (iv x), .int .i64 n] w (fun e w' => e = .returned (.int .i64 (iv (rotl x n))) ∧ ∃ m, w' = w.drewN m) := by
  by_cases h0 : n = 0
  · subst h0
    have Hr := Lib.hid (rotl_zero x)
    go_enter Tryd.func124, Tryd.ntmps124
    go_wp2
    go_ret
    exact ⟨by rw [Hr.out]; rfl, 0, rfl⟩
  · have Hr := Lib.hid (turned_bits' x hn)
    have h1 : ((n : Int) == 0) = false := by simp; exact h0
    have h2 : IntKind.i64.wrap (64 - (n : Int)) = ((64 - n : Nat) : Int) := by rw [IntWalk.i64_in _ (by omega)]; omega
    have h3 : (0 : Int) ≤ 64 - (n : Int) := by omega
    go_enter Tryd.func124, Tryd.ntmps124
    go_wp2_with fail
    go_quiet ((go_at_call 122; exact Calls.quiet_of_same (power_ok _ n (by omega))))
    go_wp2_with (go_at_call 122; refine (power_ok _ n (by omega)).mono ?_; rintro e w1 ⟨rfl, rfl⟩)
    go_ret
    refine ⟨?_, _, rfl⟩
    rw [← Hr.out, IntWalk.i64_left, IntWalk.i64_left]
    rfl
set_option maxRecDepth 100000 in
set_option maxHeartbeats 1000000 in
theorem column_ok (w : World) (A : Option Addr) (s : List Ln) (c x : Nat) (hs : Lns All w A s) (hl : s.length = 25) (hx : x < 5) :
    Calls Tryd.prog 123 #[.slice A 25 c, .int .i64 x] w (fun e w' => e = .returned (.int .i64 (iv (colS s x))) ∧ w' = w) := by
  obtain ⟨g, off, rfl, _, hg, hc⟩ := lns_at hs (by omega)
  have Hc := Lib.hid hc
  have Hv := Lib.hid (colT_five s x)
  clear hc hs
  go_enter Tryd.func123, Tryd.ntmps123
  go_wp2
  go_loopw [5, 6] (fun p i wr => ∃ k : Nat, k ≤ 5 ∧ i = .int .i64 k ∧ p = .int .i64 (iv (colT s x k)) ∧ wr = w) (fun _ i _ => 5 - (intOf i).toNat)
  case atStart => exact ⟨0, by omega, rfl, rfl, rfl⟩
  case round =>
    obtain ⟨k, hk, rfl, rfl, rfl⟩ := hrel
    by_cases hlt : k < 5
    · have hcell := Hc.out (x + 5 * k) (by omega)
      have Hx := Lib.hid (iv_xor (colT s x k) (ga s (x + 5 * k)))
      have m1 : IntKind.i64.wrap (5 * (k : Int)) = 5 * (k : Int) := IntWalk.i64_in _ (by omega)
      have m2 : IntKind.i64.wrap ((x : Int) + 5 * (k : Int)) = (x : Int) + 5 * (k : Int) := IntWalk.i64_in _ (by omega)
      have m3 : (0 : Int) ≤ (x : Int) + 5 * (k : Int) := by omega
      have m4 : (x : Int) + 5 * (k : Int) < 25 := by omega
      have m5 : ((x : Int) + 5 * (k : Int)).toNat = x + 5 * k := by omega
      go_wp2
      go_roundw
      case rel =>
        refine ⟨k + 1, by omega, by go_num, ?_, trivial⟩
        rw [colT, ← Hx.out]
      case measure => simp [intOf]; omega
    · obtain rfl : k = 5 := by omega
      go_wp2
      go_ret
      exact ⟨by rw [← Hv.out]; rfl, rfl⟩
end Go.Proofs.YtjgdeeabejoegaaDoor
