/- Walks: bytes copied and compared; keys checked. No condition but the bound of append on lengths. -/
import Derived.Test.YtjgdeeabejoegaaDoorCore
import Derived.Lib.Bytealg
import Derived.Lib.BytesEntry
import Derived.Lib.SliceRun
namespace Go.Proofs.YtjgdeeabejoegaaDoor
open Go.RowKit
set_option linter.unusedVariables false
set_option linter.unusedSimpArgs false

set_option maxHeartbeats 400000 in
theorem octets_cap (w : World) (A : Option Addr) (a : List UInt8) (c : Nat) (ha : Bs All w A a) (hn : a.length ≤ big) :
    Calls Tryd.prog 18 #[.slice A a.length c] w (RetSLc 1 ByteR w a) := by
  unfold big at hn
  obtain ⟨i0, hi0, hz0, hz1, hz2⟩ := info_parts info_u8
  have Ha := Lib.hid ha
  clear ha
  go_enter Tryd.func18, Tryd.ntmps18
  go_wp2_with (at_builtin; refine wpl_app _ rfl _ _ _ rfl w.heap.size 5 i0 (.int .u8 0) 1 1 Tryd.underlying22 hi0 hz0 hz1 hz2 rfl (by decide) _ 0 [] rfl (World.ownsRow_nil _ _ _ _) A a.length c (a.map bv) rfl (by simp) Ha.out.bsrc (bv_one a) (by unfold maxLen; omega) (by omega) (Nat.le_refl _) ?_; intro v1 w1 hown1 hg1 hat1)
  go_ret
  exact ret_bsc (by simpa using hown1) (own_below (World.ownsRow_nil _ _ 5 1) hg1 (Nat.le_refl _))
theorem octets_ok (w : World) (A : Option Addr) (a : List UInt8) (c : Nat) (ha : Bs All w A a) (hn : a.length ≤ big) :
    Calls Tryd.prog 18 #[.slice A a.length c] w (RetBs w a) :=
  (octets_cap w A a c ha hn).mono fun _ _ h => h.bare

set_option maxHeartbeats 400000 in
theorem joined_cap (w : World) (A B : Option Addr) (a b : List UInt8) (c d : Nat) (ha : Bs All w A a) (hb : Bs All w B b) (hn : a.length + b.length ≤ big) :
    Calls Tryd.prog 42 #[.slice A a.length c, .slice B b.length d] w (RetSLc 1 ByteR w (a ++ b)) := by
  unfold big at hn
  obtain ⟨i0, hi0, hz0, hz1, hz2⟩ := info_parts info_u8
  have Ha := Lib.hid ha
  have Hb := Lib.hid hb
  clear ha hb
  go_enter Tryd.func42, Tryd.ntmps42
  go_wp2
  go_loopw [5, 6] (fun v i wr => ∃ k : Nat, k ≤ a.length ∧ i = .int .i64 k ∧ wr.ownsRow w.heap.size 5 1 v k ((a.take k).map bv) ∧ Below w.heap.size w wr) (fun _ i _ => a.length - (intOf i).toNat)
  case atStart => exact ⟨0, by omega, rfl, World.ownsRow_nil _ _ _ _, Below.refl _ _⟩
  case round =>
    obtain ⟨k, hk, rfl, hown, hbel⟩ := hrel
    have Hbel := Lib.hid hbel
    have Hown := Lib.hid hown
    clear hown hbel
    by_cases hlt : k < a.length
    · obtain ⟨ab, ao, rfl, _, hal, hcell⟩ := (Ha.out.bbelow Hbel.out).bat hlt
      have Hsn := Lib.hid (take_snoc a k hlt)
      generalize a[k] = x at *
      go_wp2_with (at_builtin; refine wpl_app _ rfl _ _ _ rfl w.heap.size 5 i0 (.int .u8 0) 1 1 Tryd.underlying22 hi0 hz0 hz1 hz2 rfl (by decide) _ k _ rfl (Hown.out.alloc _) (some ⟨wr.heap.size, 0, none⟩) 1 1 [bv x] rfl rfl (one_src _ _ _) (by simp [bv, Value.oneCell']) (by unfold maxLen; omega) (by omega) (by have := Hbel.out.size; simp; omega) ?_; intro v1 w1 hown1 hg1 hat1)
      go_roundw
      case rel => exact ⟨k + 1, by omega, by go_num, by rw [Hsn.out]; simpa using hown1, (Hbel.out.alloc (Hbel.out.size) _).trans (own_below (Hown.out.alloc _) hg1 (by have := Hbel.out.size; simp; omega))⟩
      case measure => simp [intOf]; omega
    · obtain rfl : k = a.length := by omega
      have hown1 := Hown.out
      rw [List.take_length] at hown1
      have Hown1 := Lib.hid hown1
      clear Hown hlt hk hown1
      go_wp2
      obtain ⟨wm, rfl⟩ : ∃ wm : World, wm = wr := ⟨_, rfl⟩
      go_loopw [5, 7] (fun v i wr => ∃ k : Nat, k ≤ b.length ∧ i = .int .i64 k ∧ wr.ownsRow w.heap.size 5 1 v (a.length + k) ((a ++ b.take k).map bv) ∧ Below w.heap.size w wr) (fun _ i _ => b.length - (intOf i).toNat)
      case atStart => exact ⟨0, by omega, rfl, by simpa using Hown1.out, Hbel.out⟩
      case round =>
        clear Hown1 Hbel
        obtain ⟨k, hk, rfl, hown, hbel⟩ := hrel
        have Hbel := Lib.hid hbel
        have Hown := Lib.hid hown
        clear hown hbel
        by_cases hlt : k < b.length
        · obtain ⟨ab, ao, rfl, _, hal, hcell⟩ := (Hb.out.bbelow Hbel.out).bat hlt
          have Hsn := Lib.hid (take_snoc b k hlt)
          generalize b[k] = x at *
          go_wp2_with (at_builtin; refine wpl_app _ rfl _ _ _ rfl w.heap.size 5 i0 (.int .u8 0) 1 1 Tryd.underlying22 hi0 hz0 hz1 hz2 rfl (by decide) _ (a.length + k) _ rfl (Hown.out.alloc _) (some ⟨wr.heap.size, 0, none⟩) 1 1 [bv x] rfl rfl (one_src _ _ _) (by simp [bv, Value.oneCell']) (by unfold maxLen; omega) (by omega) (by have := Hbel.out.size; simp; omega) ?_; intro v1 w1 hown1 hg1 hat1)
          go_roundw
          case rel => exact ⟨k + 1, by omega, by go_num, by rw [Hsn.out]; simpa [Nat.add_assoc] using hown1, (Hbel.out.alloc (Hbel.out.size) _).trans (own_below (Hown.out.alloc _) hg1 (by have := Hbel.out.size; simp; omega))⟩
          case measure => simp [intOf]; omega
        · obtain rfl : k = b.length := by omega
          go_wp2
          go_ret
          exact ret_bsc (by have h := Hown.out; rw [List.take_length] at h; exact h) Hbel.out

theorem joined_ok (w : World) (A B : Option Addr) (a b : List UInt8) (c d : Nat) (ha : Bs All w A a) (hb : Bs All w B b) (hn : a.length + b.length ≤ big) :
    Calls Tryd.prog 42 #[.slice A a.length c, .slice B b.length d] w (RetBs w (a ++ b)) :=
  (joined_cap w A B a b c d ha hb hn).mono fun _ _ h => h.bare
theorem joinedNil_cap (w : World) (A : Option Addr) (a : List UInt8) (c : Nat) (ha : Bs All w A a) (hn : a.length ≤ big) :
    Calls Tryd.prog 42 #[.slice A a.length c, .slice none 0 0] w (RetSLc 1 ByteR w a) := by
  have h := joined_cap w A none a [] c 0 ha SL.nil (by simpa using hn)
  rw [List.append_nil] at h
  exact h
theorem joinedNil_ok (w : World) (A : Option Addr) (a : List UInt8) (c : Nat) (ha : Bs All w A a) (hn : a.length ≤ big) :
    Calls Tryd.prog 42 #[.slice A a.length c, .slice none 0 0] w (RetBs w a) := by
  have h := joined_ok w A none a [] c 0 ha SL.nil (by simpa using hn)
  rw [List.append_nil] at h
  exact h

theorem in_ok (w : World) (n low high : Int) :
    Calls Tryd.prog 83 #[.int .i64 n, .int .i64 low, .int .i64 high] w fun e w' => e = .returned (.bool (decide (low ≤ n) && decide (n ≤ high))) ∧ w = w' := by
  by_cases h1 : low ≤ n <;> by_cases h2 : n ≤ high
  all_goals
    go_enter Tryd.func83, Tryd.ntmps83
    go_wp2
    go_ret
    exact ⟨by simp [h1, h2], rfl⟩

/-- What KeyFault and path.Check answer. -/
def keyFault (a : List UInt8) : Int := if 1 ≤ a.length ∧ a.length ≤ 16 then 0 else 1

theorem keyFault_ok (w : World) (A : Option Addr) (a : List UInt8) (c : Nat) :
    Calls Tryd.prog 86 #[.slice A a.length c] w fun e w' => e = .returned (.int .i64 (keyFault a)) ∧ w = w' := by
  go_enter Tryd.func86, Tryd.ntmps86
  go_wp2_with (go_at_call 83; refine (in_ok _ _ _ _).mono ?_; rintro e w' ⟨rfl, rfl⟩)
  all_goals
    rename_i hq
    simp at hq
    go_ret
    refine ⟨ret_int ?_, rfl⟩
    unfold keyFault
    first | rw [if_pos (by omega)] | rw [if_neg (by omega)]

theorem pathCheck_ok (w : World) (A : Option Addr) (a : List UInt8) (c : Nat) :
    Calls Tryd.prog 75 #[.slice A a.length c] w fun e w' => e = .returned (.int .i64 (keyFault a)) ∧ w = w' := by
  by_cases h1 : a.length < 1
  rotate_left
  by_cases h2 : 16 < a.length
  all_goals
    go_enter Tryd.func75, Tryd.ntmps75
    go_wp2
    go_ret
    refine ⟨ret_int ?_, rfl⟩
    unfold keyFault
    first | rw [if_pos (by omega)] | rw [if_neg (by omega)]

theorem sameBytes_ok (w : World) (A B : Option Addr) (a b : List UInt8) (c d : Nat) (ha : Bs All w A a) (hb : Bs All w B b) :
    Calls Tryd.prog 21 #[.slice A a.length c, .slice B b.length d] w fun e w' => e = .returned (.bool (a == b)) ∧ w = w' := by
  have h1 := conv_str ha 22 9 5 c Tryd.underlying22 Tryd.underlying5 Tryd.underlying9
  have h2 := conv_str hb 22 9 5 d Tryd.underlying22 Tryd.underlying5 Tryd.underlying9
  clear ha hb
  go_enter Tryd.func21, Tryd.ntmps21
  go_wp2
  go_ret
  exact ⟨rfl, rfl⟩
theorem before_ok (w : World) (A B : Option Addr) (a b : List UInt8) (c d : Nat) (ha : Bs All w A a) (hb : Bs All w B b) :
    Calls Tryd.prog 103 #[.slice A a.length c, .slice B b.length d] w fun e w' => e = .returned (.bool (lt a b)) ∧ w = w' := by
  have h1 := conv_str ha 22 9 5 c Tryd.underlying22 Tryd.underlying5 Tryd.underlying9
  have h2 := conv_str hb 22 9 5 d Tryd.underlying22 Tryd.underlying5 Tryd.underlying9
  clear ha hb
  go_enter Tryd.func103, Tryd.ntmps103
  go_wp2
  go_ret
  exact ⟨rfl, rfl⟩
theorem cmp_lt : ∀ a b : List UInt8, Lib.compareBytes a b = if lt a b then -1 else if a = b then 0 else 1
  | [], [] => by simp [Lib.compareBytes, lt, Op.bytesLess]
  | [], _ :: _ => by simp [Lib.compareBytes, lt, Op.bytesLess]
  | _ :: _, [] => by simp [Lib.compareBytes, lt, Op.bytesLess]
  | a :: x, b :: y => by
    have ih := cmp_lt x y
    unfold Lib.compareBytes
    by_cases h1 : a < b
    · simp [h1, lt, Op.bytesLess]
    · by_cases h2 : b < a
      · have h3 : a ≠ b := fun e => by subst e; exact h1 h2
        simp [h1, h2, lt, Op.bytesLess, h3]
      · have h3 : a = b := UInt8.le_antisymm (UInt8.not_lt.1 h2) (UInt8.not_lt.1 h1)
        subst h3
        simp only [lt] at ih
        simp [lt, Op.bytesLess, ih]
        rfl

/-- What bytes.Compare answers. -/
def cmp3 (a b : List UInt8) : Int := if lt a b then -1 else if a = b then 0 else 1
theorem bytesOf_ok {P : Program} {S : Nat → Prop} {w : World} {A : Option Addr} {a : List UInt8} (h : Bs S w A a) (c : Nat) : (Extern.Bytes.bytesOf (.slice A a.length c)).run P w = .ok ⟨a.toArray⟩ w := by
  rcases A with _ | ad
  · have : a = [] := by
      cases a with
      | nil => rfl
      | cons b l => obtain ⟨_, _, h', _⟩ := h (by simp); cases h'
    subst this
    rfl
  · rcases Nat.eq_zero_or_pos a.length with h0 | h0
    · obtain rfl := List.eq_nil_of_length_eq_zero h0
      rfl
    · obtain ⟨b', off', e', _, _, hc⟩ := h.ball h0
      cases e'
      have := Lib.run_loadBytesX (P := P) w (a.map fun b => ((b.toNat : Int))) ⟨b', off', none⟩ .empty (fun j x hx => by
        obtain ⟨b, hb, rfl⟩ := List.mem_map.1 (List.mem_of_getElem? hx)
        rw [add_at]
        exact hc j _ (by simp only [List.getElem?_map] at hx ⊢; cases hj : a[j]? <;> simp_all [bv]))
      rw [List.length_map] at this
      rw [Extern.Bytes.bytesOf, this]
      congr 2
      simp [Lib.bytesOf, Function.comp_def]
theorem compare_run {P : Program} {Sa Sb : Nat → Prop} {w : World} {A B : Option Addr} {a b : List UInt8} (ha : Bs Sa w A a) (hb : Bs Sb w B b) (c d : Nat) :
    (Extern.BytealgCompare.compare #[.slice A a.length c, .slice B b.length d]).run P w = .ok (.int .i64 (cmp3 a b)) w := by
  change Sem.run P (do pure (goInt (Extern.BytealgCompare.cmp (← Extern.Bytes.bytesOf (.slice A a.length c)) (← Extern.Bytes.bytesOf (.slice B b.length d))))) w = _
  simp only [Sem.run_bind, bytesOf_ok ha, bytesOf_ok hb, Result.andThen]
  rw [Lib.cmp_eq, cmp_lt]
  rfl
set_option maxRecDepth 100000 in
set_option maxHeartbeats 400000 in
theorem bytesCompare_ok (w : World) (A B : Option Addr) (a b : List UInt8) (c d : Nat) (ha : Bs All w A a) (hb : Bs All w B b) :
    Calls Tryd.prog 106 #[.slice A a.length c, .slice B b.length d] w fun e w' => e = .returned (.int .i64 (cmp3 a b)) ∧ w = w' := by
  have Hr := Lib.hid (compare_run (P := Tryd.prog) ha hb c d)
  clear ha hb
  go_enter Tryd.func106, Tryd.ntmps106
  go_wp2
  rw [run_callFunc_extern Tryd.func125 (by kernel_rfl) (by kernel_rfl) (by kernel_rfl) (e := Extern.BytealgCompare.compare) (by kernel_rfl), Hr.out]
  simp only [Result.andThen]
  rw [Oper.upon_value]
  go_wp2
  go_ret
  exact ⟨rfl, rfl⟩
set_option maxRecDepth 100000 in
set_option maxHeartbeats 400000 in
theorem clone_cap (w : World) (A : Option Addr) (a : List UInt8) (c : Nat) (ha : Bs All w A a) (hn : a.length ≤ big) :
    Calls Tryd.prog 61 #[.slice A a.length c] w (RetSLc 1 ByteR w a) := by
  unfold big at hn
  obtain ⟨i0, hi0, hz0, hz1, hz2⟩ := info_parts info_u8
  have hnil := Lib.run_eql_slice_nil (P := Tryd.prog) w 22 5 A a.length c 0 0 Tryd.underlying22
  have Ha := Lib.hid ha
  clear ha
  rcases A with _ | ad
  · have e0 : a = [] := by
      cases a with
      | nil => rfl
      | cons b l => obtain ⟨_, _, h', _⟩ := Ha.out (by simp); cases h'
    subst e0
    clear hn hnil
    have hnil := Lib.run_eql_slice_nil (P := Tryd.prog) w 22 5 none 0 c 0 0 Tryd.underlying22
    go_enter Tryd.func61, Tryd.ntmps61
    go_wp2
    go_ret
    exact ⟨none, 0, rfl, Nat.le_refl _, SL.nil, Below.refl _ _⟩
  · go_enter Tryd.func61, Tryd.ntmps61
    go_wp2_with (at_builtin; refine wpl_app _ rfl _ _ _ rfl w.heap.size 5 i0 (.int .u8 0) 1 1 Tryd.underlying22 hi0 hz0 hz1 hz2 rfl (by decide) _ 0 [] rfl (World.ownsRow_made w #[] 0 (Nat.le_refl _) (by decide) rfl) (some ad) a.length c (a.map bv) rfl (by simp) (Ha.out.bbelow ((Below.refl _ _).alloc (Nat.le_refl _) _)).bsrc (bv_one a) (by unfold maxLen; omega) (by omega) (by first | (simp; done) | omega | (simp; omega)) ?_; intro v1 w1 hown1 hg1 hat1)
    go_ret
    exact ret_bsc (by simpa using hown1) (((Below.refl _ _).alloc (Nat.le_refl _) _).trans (own_below (World.ownsRow_made (e := 5) (size := 1) w #[] 0 (Nat.le_refl _) (by decide) rfl) hg1 (by first | (simp; done) | omega | (simp; omega))))
theorem clone_ok (w : World) (A : Option Addr) (a : List UInt8) (c : Nat) (ha : Bs All w A a) (hn : a.length ≤ big) :
    Calls Tryd.prog 61 #[.slice A a.length c] w (RetBs w a) :=
  (clone_cap w A a c ha hn).mono fun _ _ h => h.bare
end Go.Proofs.YtjgdeeabejoegaaDoor
