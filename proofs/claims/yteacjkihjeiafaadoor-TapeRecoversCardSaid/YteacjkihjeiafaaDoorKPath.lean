/- Path: Walks: keys as bits. Walk of path.Bit. The first bit at which two bytes differ. The walks of PathBits and PathParts. The walk of PathParts. The conditions of each are in its words. -/
import Derived.OpenShut
import Derived.Test.YteacjkihjeiafaaDoorKBase
namespace Go.Proofs.YteacjkihjeiafaaDoor
open Go.RowKit
set_option linter.unusedVariables false
set_option linter.unusedSimpArgs false

def BoolR (_ : Nat → Prop) (_ : World) (cs : List Value) (b : Bool) : Prop := cs = [.bool b]
theorem boolR_stays : Stays BoolR := ⟨fun _ _ _ _ _ _ h => h, fun _ _ _ _ _ _ h => h⟩
theorem bools_at {S : Nat → Prop} {w : World} {A : Option Addr} {l : List Bool} (h : SL 1 BoolR S w A l) {k : Nat} (hk : k < l.length) :
    ∃ b off, A = some ⟨b, off, none⟩ ∧ b < w.heap.size ∧ w.cell? ⟨b, off + k, none⟩ = some (.bool l[k]) := by
  obtain ⟨b, off, cs, e, _, hlt, _, h2, h3⟩ := h.at hk
  refine ⟨b, off, e, hlt, ?_⟩
  have := h2 0 (by omega)
  rw [h3] at this
  simpa using this
theorem info_bool : (Tryd.prog.info? 4).map (fun i => (i.zero, i.size, i.bytes)) = some (some (.bool false), 1, 1) := by kernel_rfl
def nAt (b j : Nat) : Nat := b % (256 / 2 ^ j)
def pAt (j : Nat) : Nat := 128 / 2 ^ j
def bitN (b j : Nat) : Bool := decide (pAt j ≤ nAt b j)
/-- What stands behind j rounds. -/
def some9 (b : UInt8) (j : Nat) : List Bool := true :: (List.range j).map (bitN b.toNat)
def bits (l : List UInt8) : List Bool := l.flatMap fun b => some9 b 8
theorem bits_snoc (l : List UInt8) (b : UInt8) : bits (l ++ [b]) = bits l ++ some9 b 8 := by simp [bits]
theorem bits_len (l : List UInt8) : (bits l).length = 9 * l.length := by
  induction l with
  | nil => rfl
  | cons b l ih => rw [show bits (b :: l) = some9 b 8 ++ bits l from rfl, List.length_append, ih]; simp [some9]; omega
theorem some9_len (b : UInt8) (j : Nat) : (some9 b j).length = j + 1 := by simp [some9]
theorem some9_snoc (b : UInt8) (j : Nat) : some9 b j ++ [bitN b.toNat j] = some9 b (j + 1) := by simp [some9, List.range_succ]
theorem pAt_step : ∀ j < 9, pAt j / 2 = pAt (j + 1) ∧ pAt j ≤ 128 ∧ (j < 8 → 0 < pAt j) ∧ (j = 8 → pAt j = 0) := by decide +kernel
theorem nAt_all : ∀ b < 256, ∀ j < 8, nAt b j < 256 ∧ nAt b (j + 1) = if pAt j ≤ nAt b j then nAt b j - pAt j else nAt b j := by decide +kernel
/-- The length of a slice. -/
def sliceN : Value → Nat
  | .slice _ n _ => n
  | _ => 0
def all145 (l : List UInt8) : List Bool := bits l ++ List.replicate (145 - 9 * l.length) false

set_option maxRecDepth 100000 in
set_option maxHeartbeats 1000000 in
theorem allBits_ok (w : World) (A : Option Addr) (a : List UInt8) (c : Nat) (ha : Bs All w A a) (hn : a.length ≤ 16) :
    Calls Tryd.prog 85 #[.slice A a.length c] w (RetSL 1 BoolR w (all145 a)) := by
  obtain ⟨i0, hi0, hz0, hz1, hz2⟩ := info_parts info_bool
  have Ha := Lib.hid ha
  clear ha
  go_enter Tryd.func85, Tryd.ntmps85
  go_wp2
  go_loopw [3, 4] (fun v i wr => ∃ k : Nat, k ≤ a.length ∧ i = .int .i64 k ∧ Own 1 BoolR (From w.heap.size) wr w.heap.size 4 v (bits (a.take k)) ∧ Below w.heap.size w wr) (fun _ i _ => a.length - (intOf i).toNat)
  case atStart => exact ⟨0, by omega, rfl, Own.nil _ _ _, Below.refl _ _⟩
  case round =>
    obtain ⟨k, hk, rfl, hown, hbel⟩ := hrel
    have Hbel := Lib.hid hbel
    have Hown := Lib.hid hown
    clear hown hbel
    by_cases hlt : k < a.length
    · have Hsn := Lib.hid (take_snoc a k hlt)
      obtain ⟨x, hx⟩ : ∃ x, x = a[k] := ⟨_, rfl⟩
      have Hx := Lib.hid hx
      rw [← hx] at Hsn
      clear hx
      have hbl : (bits (a.take k)).length ≤ 144 := by rw [bits_len, List.length_take]; omega
      have Hbl := Lib.hid hbl
      clear hbl
      go_wp2_with (at_builtin; refine wpl_snoc boolR_stays (S := From w.heap.size) _ rfl _ _ _ rfl w.heap.size 4 i0 _ 1 1 Tryd.underlying113 hi0 hz0 hz1 hz2 rfl (by decide) _ (bits (a.take k)) rfl ?hown _ _ [.bool true] rfl rfl (new_src _ _ [.bool true] _ (by simp)) (by simp [Value.oneCell']) ?hm ?hby ?hba true rfl ?_; (case hown => exact Hown.out.same boolR_stays ((Same.refl _ _).alloc _)); (case hm => have := Hbl.out; simp only [maxLen]; omega); (case hby => have := Hbl.out; omega); (case hba => have hz1 := Hbel.out.size; simp; omega); intro v1 w2 hown2 hbw2; have hbw := (Hbel.out.alloc Hbel.out.size _).trans hbw2; obtain ⟨ab, ao, rfl, _, hal, hcell⟩ := (Ha.out.bbelow hbw).bat hlt; rw [← Hx.out] at hcell)
      have hx256 : x.toNat < 256 := x.toNat_lt
      have Hbw := Lib.hid hbw
      have Hown2 := Lib.hid hown2
      clear hown2 hbw hbw2
      have Hcell := Lib.hid hcell
      clear hcell
      go_loopw [3, 5, 6] (fun v n p wr => ∃ j : Nat, j ≤ 8 ∧ (j < 8 → n = .int .i64 (nAt x.toNat j)) ∧ p = .int .i64 (pAt j) ∧ Own 1 BoolR (From w.heap.size) wr w.heap.size 4 v (bits (a.take k) ++ some9 x j) ∧ Below w.heap.size w wr) (fun _ _ p _ => (intOf p).toNat)
      case atStart => exact ⟨0, by omega, fun _ => by have hw := IntWalk.wrap64_in (x.toNat : Int) (by omega); simp [nAt, Nat.mod_eq_of_lt hx256, hw], by simp [pAt], Hown2.out, Hbw.out⟩
      case round =>
        obtain ⟨j, hj, hn', rfl, hown, hbel⟩ := hrel
        obtain ⟨st1, st2, st3, st4⟩ := pAt_step j (by omega)
        have Hown3 := Lib.hid hown
        have Hbel3 := Lib.hid hbel
        clear hown hbel
        by_cases hj8 : j < 8
        · obtain ⟨n1, n2⟩ := nAt_all x.toNat hx256 j hj8
          have hb9 : (bits (a.take k) ++ some9 x j).length ≤ 160 := by rw [List.length_append, some9_len]; have := Hbl.out; omega
          have Hb9 := Lib.hid hb9
          have p0 := st3 hj8
          obtain rfl := hn' hj8
          have hsn := some9_snoc x j
          have hbn : bitN x.toNat j = decide (pAt j ≤ nAt x.toNat j) := rfl
          have hpd : (((pAt j : Nat) : Int) / 2) = ((pAt (j + 1) : Nat) : Int) := by omega
          rw [hbn] at hsn
          clear hb9 hn' st3 st4 st1 hbn
          obtain ⟨p, hp⟩ : ∃ p, p = pAt j := ⟨_, rfl⟩
          obtain ⟨p', hp'⟩ : ∃ p', p' = pAt (j + 1) := ⟨_, rfl⟩
          obtain ⟨n, hnn⟩ : ∃ n, n = nAt x.toNat j := ⟨_, rfl⟩
          obtain ⟨n', hnn'⟩ : ∃ n, n = nAt x.toNat (j + 1) := ⟨_, rfl⟩
          rw [← hp, ← hnn] at hsn
          rw [← hp, ← hp'] at hpd
          rw [← hp] at p0 st2
          rw [← hp, ← hnn, ← hnn'] at n2
          rw [← hnn] at n1
          rw [← hp, ← hnn]
          have Hsn2 := Lib.hid hsn
          have Hp' := Lib.hid hp'
          have Hn' := Lib.hid hnn'
          have Hpd := Lib.hid hpd
          clear hsn hp hp' hnn hnn' hpd
          by_cases hq : p ≤ n
          all_goals
            first | rw [if_pos hq] at n2 | rw [if_neg hq] at n2
            first | rw [decide_eq_true hq] at Hsn2 | rw [decide_eq_false hq] at Hsn2
            first
              | (have bq : decide ((p : Int) ≤ (n : Int)) = true := decide_eq_true (by omega); obtain ⟨bb, hbb⟩ : ∃ bb, bb = true := ⟨_, rfl⟩)
              | (have bq : decide ((p : Int) ≤ (n : Int)) = false := decide_eq_false (by omega); obtain ⟨bb, hbb⟩ : ∃ bb, bb = false := ⟨_, rfl⟩)
            have Hn2 := Lib.hid n2
            clear n2
            go_wp2_with (first | (at_builtin; refine wpl_snoc boolR_stays (S := From w.heap.size) _ rfl _ _ _ rfl w.heap.size 4 i0 _ 1 1 Tryd.underlying113 hi0 hz0 hz1 hz2 rfl (by decide) _ (bits (a.take k) ++ some9 x j) rfl ?hown _ _ [.bool true] rfl rfl (new_src _ _ [.bool true] _ (by simp)) (by simp [Value.oneCell']) ?hm ?hby ?hba true rfl ?_; (case hown => exact Hown3.out.same boolR_stays ((Same.refl _ _).alloc _)); (case hm => have := Hb9.out; simp only [maxLen]; omega); (case hby => have := Hb9.out; omega); (case hba => have hz1 := Hbel3.out.size; simp; omega); intro v1 w3 hown3 hbw3; rw [List.append_assoc, Hsn2.out] at hown3) | (at_builtin; refine wpl_snoc boolR_stays (S := From w.heap.size) _ rfl _ _ _ rfl w.heap.size 4 i0 _ 1 1 Tryd.underlying113 hi0 hz0 hz1 hz2 rfl (by decide) _ (bits (a.take k) ++ some9 x j) rfl ?hown _ _ [.bool false] rfl rfl (new_src _ _ [.bool false] _ (by simp)) (by simp [Value.oneCell']) ?hm ?hby ?hba false rfl ?_; (case hown => exact Hown3.out.same boolR_stays ((Same.refl _ _).alloc _)); (case hm => have := Hb9.out; simp only [maxLen]; omega); (case hby => have := Hb9.out; omega); (case hba => have hz1 := Hbel3.out.size; simp; omega); intro v1 w3 hown3 hbw3; rw [List.append_assoc, Hsn2.out] at hown3))
            go_roundw
            case rel => exact ⟨j + 1, by omega, fun _ => by rw [← Hn'.out, Hn2.out]; first | done | (try go_num), by rw [← Hp'.out]; exact congrArg (Value.int .i64) (by have := Hpd.out; omega), hown3, (Hbel3.out.alloc Hbel3.out.size _).trans hbw3⟩
            case measure => simp [intOf]; have := Hpd.out; omega
        · obtain rfl : j = 8 := by omega
          rw [st4 rfl]
          clear hn' st1 st2 st3 st4
          have hown4 := Hown3.out
          rw [← bits_snoc, ← Hsn.out] at hown4
          have Hown4 := Lib.hid hown4
          clear hown4
          go_wp2
          exact ⟨⟨k + 1, by omega, rfl, Hown4.out, Hbel3.out⟩, by simp [intOf]; omega⟩
    · obtain rfl : k = a.length := by omega
      have hown := Hown.out
      rw [List.take_length] at hown
      have Hown2 := Lib.hid hown
      have hbl := bits_len a
      have Hl := Lib.hid hbl
      clear hown Hown hbl
      go_wp2
      go_loopw [3] (fun v wr => ∃ m : Nat, 9 * a.length + m ≤ 145 ∧ Own 1 BoolR (From w.heap.size) wr w.heap.size 4 v (bits a ++ List.replicate m false) ∧ Below w.heap.size w wr) (fun v _ => 145 - sliceN v)
      case atStart => exact ⟨0, by omega, by simpa using Hown2.out, Hbel.out⟩
      case round =>
        obtain ⟨m, hm, hown, hbel⟩ := hrel
        have Hown3 := Lib.hid hown
        have Hbel3 := Lib.hid hbel
        obtain ⟨B, d, rfl, hBd, hsl⟩ := hown.readc boolR_stays
        have Hsl := Lib.hid hsl
        obtain ⟨q, hq⟩ : ∃ q, q = (bits a ++ List.replicate m false).length := ⟨_, rfl⟩
        have hq' : q = 9 * a.length + m := by rw [hq, List.length_append, List.length_replicate, Hl.out]
        rw [← hq]
        rw [← hq] at Hown3
        have Hq := Lib.hid hq
        have Hq' := Lib.hid hq'
        clear hq hown hbel hBd hsl
        by_cases hlt : q < 145
        · have Hrs := Lib.hid (show bits a ++ List.replicate m false ++ [false] = bits a ++ List.replicate (m + 1) false by rw [List.append_assoc, List.replicate_succ'])
          clear hq'
          go_wp2_with (at_builtin; refine wpl_snoc boolR_stays (S := From w.heap.size) _ rfl _ _ _ rfl w.heap.size 4 i0 _ 1 1 Tryd.underlying113 hi0 hz0 hz1 hz2 rfl (by decide) _ (bits a ++ List.replicate m false) rfl ?hown _ _ [.bool false] rfl rfl (new_src _ _ [.bool false] _ (by simp)) (by simp [Value.oneCell']) ?hm ?hby ?hba false rfl ?_; (case hown => exact Hown3.out.same boolR_stays ((Same.refl _ _).alloc _)); (case hm => rw [← Hq.out]; simp only [maxLen]; omega); (case hby => rw [← Hq.out]; omega); (case hba => have hz1 := Hbel3.out.size; simp; omega); intro v1 w3 hown3 hbw3; rw [Hrs.out] at hown3)
          have hq2 := Hq'.out
          obtain ⟨B2, d2, rfl, _, _⟩ := hown3.readc boolR_stays
          go_roundw
          case rel => exact ⟨m + 1, by omega, hown3, (Hbel3.out.alloc Hbel3.out.size _).trans hbw3⟩
          case measure => simp [sliceN, Hl.out]; omega
        · go_wp2
          go_ret
          have e : all145 a = bits a ++ List.replicate m false := by unfold all145; rw [show 145 - 9 * a.length = m by omega]
          rw [e]
          exact ⟨B, d, by rw [← Hq.out]; simp, Hsl.out, Hbel3.out⟩

/-! ### the i-th bit -/
theorem bits_get : ∀ (a : List UInt8) (q r : Nat) (hq : q < a.length), r < 9 → (bits a)[9 * q + r]? = (some9 a[q] 8)[r]?
  | [], q, r, hq, _ => absurd hq (by simp)
  | x :: a, 0, r, _, hr => by
    rw [show bits (x :: a) = some9 x 8 ++ bits a from rfl, List.getElem?_append_left (by rw [some9_len]; omega)]
    simp
  | x :: a, q + 1, r, hq, hr => by
    rw [show bits (x :: a) = some9 x 8 ++ bits a from rfl, List.getElem?_append_right (by rw [some9_len]; omega), some9_len, show 9 * (q + 1) + r - (8 + 1) = 9 * q + r by omega, bits_get a q r (by simpa using hq) hr]
    simp
theorem shr_all : ∀ x < 256, ∀ r < 9, 0 < r → (Go.bits BinOp.and IntKind.u8 (((x : Nat) : Int) / 2 ^ (8 - r)) 1 == 1) = bitN x (r - 1) := by decide +kernel
theorem shr_one (x : UInt8) {r : Nat} (h : r < 9) (h0 : 0 < r) : (Go.bits BinOp.and IntKind.u8 ((x.toNat : Int) / 2 ^ (8 - r)) 1 == 1) = ((some9 x 8)[r]?).getD false := by
  rw [shr_all x.toNat x.toNat_lt r h h0]
  obtain ⟨j, rfl⟩ : ∃ j, r = j + 1 := ⟨r - 1, by omega⟩
  simp only [some9, List.getElem?_cons_succ, List.getElem?_map, Nat.add_sub_cancel]
  rw [List.getElem?_range (by omega)]
  rfl
def bitB (a : List UInt8) (i : Nat) : Bool := (all145 a).getD i false
theorem all145_len {a : List UInt8} (h : a.length ≤ 16) : (all145 a).length = 145 := by unfold all145; rw [List.length_append, List.length_replicate, bits_len]; omega
theorem bitB_off {a : List UInt8} {i q r : Nat} (hi : i = 9 * q + r) (h : a.length ≤ q) : bitB a i = false := by
  unfold bitB all145
  rw [List.getD_eq_getElem?_getD, List.getElem?_append_right (by rw [bits_len]; omega), List.getElem?_replicate]
  split <;> rfl
theorem bitB_on {a : List UInt8} {i q r : Nat} (hi : i = 9 * q + r) (hr : r < 9) (h : q < a.length) : bitB a i = ((some9 a[q] 8)[r]?).getD false := by
  unfold bitB all145
  rw [List.getD_eq_getElem?_getD, List.getElem?_append_left (by rw [bits_len]; omega), hi, bits_get a q r h hr]
set_option maxRecDepth 100000 in
set_option maxHeartbeats 1000000 in
theorem pbit_ok (w : World) (A : Option Addr) (a : List UInt8) (c : Nat) (i : Nat) (ha : Bs All w A a) (hi : i < 145) (hn : a.length ≤ 16) :
    Calls Tryd.prog 121 #[.slice A a.length c, .int .i64 i] w (fun e w' => e = .returned (.bool (bitB a i)) ∧ w' = w) := by
  obtain ⟨q, hq⟩ : ∃ q, q = i / 9 := ⟨_, rfl⟩
  obtain ⟨r, hr⟩ : ∃ r, r = i % 9 := ⟨_, rfl⟩
  have hir : i = 9 * q + r := by omega
  have hr9 : r < 9 := by omega
  have hq16 : q ≤ 16 := by omega
  have e1 : (i : Int) / 9 = (q : Int) := by omega
  have e2 : (i : Int) % 9 = (r : Int) := by omega
  have Hir := Lib.hid hir
  clear hq hr hir
  by_cases h1 : a.length ≤ q
  · have b1 : decide ((a.length : Int) ≤ (q : Int)) = true := decide_eq_true (by omega)
    rw [bitB_off Hir.out h1]
    clear Hir
    go_enter Tryd.func121, Tryd.ntmps121
    go_wp2
    go_ret
    exact ⟨rfl, rfl⟩
  · have b1 : decide ((a.length : Int) ≤ (q : Int)) = false := decide_eq_false (by omega)
    rw [bitB_on Hir.out hr9 (by omega)]
    clear Hir
    obtain ⟨ab, ao, rfl, _, hal, hcell⟩ := ha.bat (k := q) (by omega)
    obtain ⟨x, hx⟩ : ∃ x, x = a[q] := ⟨_, rfl⟩
    rw [← hx] at hcell
    rw [← hx]
    clear hx ha
    rcases (by omega : r = 0 ∨ 0 < r) with h2 | h2
    · subst h2
      rw [show ((some9 x 8)[0]?).getD false = true from rfl]
      go_enter Tryd.func121, Tryd.ntmps121
      go_wp2
      go_ret
      exact ⟨rfl, rfl⟩
    · have b2 : decide ((r : Int) = 0) = false := decide_eq_false (by omega)
      go_enter Tryd.func121, Tryd.ntmps121
      go_wp2
      go_ret
      exact ⟨ret_bool (shr_one x hr9 h2), rfl⟩
end Go.Proofs.YteacjkihjeiafaaDoor
namespace Go.Proofs.YteacjkihjeiafaaDoor
open Go.RowKit
set_option linter.unusedVariables false
set_option linter.unusedSimpArgs false

def bitS (a : List UInt8) (i : Int) : Bool × Int := if keyFault a = 0 then (if 0 ≤ i ∧ i ≤ 144 then (bitB a i.toNat, 0) else (false, 2)) else (false, keyFault a)
theorem key16 {a : List UInt8} (h : keyFault a = 0) : a.length ≤ 16 := by unfold keyFault at h; split at h <;> omega
theorem bit_at {S : Nat → Prop} {w : World} {A : Option Addr} {a : List UInt8} (h : SL 1 BoolR S w A (all145 a)) (h16 : a.length ≤ 16) {n : Nat} (hn : n < 145) :
    ∃ b off, A = some ⟨b, off, none⟩ ∧ b < w.heap.size ∧ w.cell? ⟨b, off + n, none⟩ = some (.bool (bitB a n)) := by
  have hl : n < (all145 a).length := by rw [all145_len h16]; exact hn
  obtain ⟨b, off, e, h1, h2⟩ := bools_at h hl
  refine ⟨b, off, e, h1, ?_⟩
  rw [h2]
  unfold bitB
  rw [List.getD_eq_getElem?_getD, List.getElem?_eq_getElem hl]
  rfl
set_option maxRecDepth 100000 in
set_option maxHeartbeats 1000000 in
theorem pathBit_ok (w : World) (A : Option Addr) (a : List UInt8) (c : Nat) (i : Int) (ha : Bs All w A a) :
    Calls Tryd.prog 80 #[.slice A a.length c, .int .i64 i] w (RetV w (.tuple #[.bool (bitS a i).1, .int .i64 (bitS a i).2])) := by
  have Ha := Lib.hid ha
  clear ha
  by_cases hk : keyFault a = 0
  · have H16 := Lib.hid (key16 hk)
    have Hk := Lib.hid hk
    rcases (by omega : i < 0 ∨ (0 ≤ i ∧ 145 ≤ i) ∨ (0 ≤ i ∧ i ≤ 144)) with h | ⟨h, h'⟩ | ⟨h, h'⟩
    · have e : bitS a i = (false, 2) := by unfold bitS; rw [if_pos hk, if_neg (by omega)]
      rw [e]
      clear e hk
      go_enter Tryd.func80, Tryd.ntmps80
      go_wp2_with (go_at_call 107; refine (pathCheck_ok _ A a c).mono ?_; rintro e w1 ⟨rfl, rfl⟩; rw [Hk.out])
      go_ret2
      exact ⟨rfl, Below.refl _ _⟩
    · have e : bitS a i = (false, 2) := by unfold bitS; rw [if_pos hk, if_neg (by omega)]
      rw [e]
      clear e hk
      go_enter Tryd.func80, Tryd.ntmps80
      go_wp2_with (go_at_call 107; refine (pathCheck_ok _ A a c).mono ?_; rintro e w1 ⟨rfl, rfl⟩; rw [Hk.out])
      go_ret2
      exact ⟨rfl, Below.refl _ _⟩
    · obtain ⟨n, rfl⟩ : ∃ n : Nat, i = n := ⟨i.toNat, by omega⟩
      have e : bitS a n = (bitB a n, 0) := by unfold bitS; rw [if_pos hk, if_pos ⟨h, h'⟩]; simp
      rw [e]
      have hn : n < 145 := by omega
      clear e hk
      go_enter Tryd.func80, Tryd.ntmps80
      go_wp2_with (first
        | (go_at_call 107; refine (pathCheck_ok _ A a c).mono ?_; rintro e w1 ⟨rfl, rfl⟩; rw [Hk.out])
        | (go_at_call 121; refine (pbit_ok _ A a c n Ha.out hn H16.out).mono ?_; rintro e w2 ⟨rfl, rfl⟩))
      go_ret2
      exact ⟨rfl, Below.refl _ _⟩
  · have e : bitS a i = (false, keyFault a) := by unfold bitS; rw [if_neg hk]
    rw [e]
    have b1 : (keyFault a != 0) = true := by simpa using hk
    clear e hk
    go_enter Tryd.func80, Tryd.ntmps80
    go_wp2_with (go_at_call 107; refine (pathCheck_ok _ A a c).mono ?_; rintro e w1 ⟨rfl, rfl⟩)
    go_ret2
    exact ⟨rfl, Below.refl _ _⟩
end Go.Proofs.YteacjkihjeiafaaDoor
namespace Go.Proofs.YteacjkihjeiafaaDoor
set_option linter.unusedVariables false
set_option linter.unusedSimpArgs false

def byteFirst (x y : Nat) : Nat := ((List.range 8).find? fun j => bitN x j != bitN y j).getD 8
theorem byte_first : ∀ x < 256, ∀ y < 256, x < y → byteFirst x y < 8 ∧ (bitN x (byteFirst x y) = false ∧ bitN y (byteFirst x y) = true) ∧ (List.range (byteFirst x y)).all (fun j => bitN x j == bitN y j) = true := by decide +kernel
end Go.Proofs.YteacjkihjeiafaaDoor
namespace Go.Proofs.YteacjkihjeiafaaDoor
open Go.RowKit
set_option linter.unusedVariables false
set_option linter.unusedSimpArgs false

end Go.Proofs.YteacjkihjeiafaaDoor
namespace Go.Proofs.YteacjkihjeiafaaDoor
open Go.RowKit
set_option linter.unusedVariables false
set_option linter.unusedSimpArgs false

/-- The first place, of n from k on, at which two keys differ; -1: none. -/
def firstNot (a b : List UInt8) : Nat → Nat → Int
  | 0, _ => -1
  | n + 1, k => if bitB a k = bitB b k then firstNot a b n (k + 1) else (k : Int)
theorem firstNot_at {a b : List UInt8} {k : Nat} (hk : k < 145) : firstNot a b (145 - k) k = if bitB a k = bitB b k then firstNot a b (145 - (k + 1)) (k + 1) else (k : Int) := by
  obtain ⟨m, hm⟩ : ∃ m, 145 - k = m + 1 := ⟨144 - k, by omega⟩
  have e : 145 - (k + 1) = m := by omega
  rw [hm, e]
  rfl
def partS (a b : List UInt8) : Int × Int := if keyFault a = 0 then (if keyFault b = 0 then (firstNot a b 145 0, 0) else (0, keyFault b)) else (0, keyFault a)
set_option maxRecDepth 100000 in
set_option maxHeartbeats 1000000 in
theorem pathPart_ok (w : World) (A B : Option Addr) (a b : List UInt8) (c d : Nat) (ha : Bs All w A a) (hb : Bs All w B b) :
    Calls Tryd.prog 118 #[.slice A a.length c, .slice B b.length d] w (RetV w (.tuple #[.int .i64 (partS a b).1, .int .i64 (partS a b).2])) := by
  have Ha := Lib.hid ha
  have Hb := Lib.hid hb
  clear ha hb
  by_cases hk : keyFault a = 0
  · have H16 := Lib.hid (key16 hk)
    have Hk := Lib.hid hk
    by_cases hm : keyFault b = 0
    · have J16 := Lib.hid (key16 hm)
      have Jk := Lib.hid hm
      have e : partS a b = (firstNot a b 145 0, 0) := by unfold partS; rw [if_pos hk, if_pos hm]
      rw [e]
      obtain ⟨r, hr⟩ : ∃ r, r = firstNot a b 145 0 := ⟨_, rfl⟩
      rw [← hr]
      have Hr := Lib.hid hr
      clear e hk hm hr
      go_enter Tryd.func118, Tryd.ntmps118
      go_wp2_with (go_at_call 107; (first | (with_reducible refine (pathCheck_ok _ A a c).mono ?_; rintro e w1 ⟨rfl, rfl⟩; rw [Hk.out]) | (with_reducible refine (pathCheck_ok _ B b d).mono ?_; rintro e w2 ⟨rfl, rfl⟩; rw [Jk.out])))
      go_loopw [19] (fun i wr => ∃ k : Nat, k ≤ 145 ∧ i = .int .i64 k ∧ r = firstNot a b (145 - k) k ∧ wr = w) (fun i _ => 145 - (intOf i).toNat)
      case atStart => exact ⟨0, by omega, rfl, Hr.out, rfl⟩
      case round =>
        obtain ⟨k, hk, rfl, hr, rfl⟩ := hrel
        by_cases hlt : k < 145
        · rw [firstNot_at hlt] at hr
          rcases Bool.eq_false_or_eq_true (bitB a k) with hxa | hxa <;> rcases Bool.eq_false_or_eq_true (bitB b k) with hxb | hxb
          all_goals
            rw [hxa, hxb] at hr
            have Hxa := Lib.hid hxa
            have Hxb := Lib.hid hxb
            clear hxa hxb
            first
              | (rw [if_neg (by decide)] at hr
                 have Hr2 := Lib.hid hr
                 clear hr
                 go_wp2_with (go_at_call 121; (first | (with_reducible refine (pbit_ok _ A a c k Ha.out hlt H16.out).mono ?_; rintro e w3 ⟨rfl, rfl⟩; rw [Hxa.out]) | (with_reducible refine (pbit_ok _ B b d k Hb.out hlt J16.out).mono ?_; rintro e w4 ⟨rfl, rfl⟩; rw [Hxb.out])))
                 go_ret2
                 exact ⟨by rw [Hr2.out]; rfl, Below.refl _ _⟩)
              | (rw [if_pos rfl] at hr
                 have Hr2 := Lib.hid hr
                 clear hr
                 go_wp2_with (go_at_call 121; (first | (with_reducible refine (pbit_ok _ A a c k Ha.out hlt H16.out).mono ?_; rintro e w3 ⟨rfl, rfl⟩; rw [Hxa.out]) | (with_reducible refine (pbit_ok _ B b d k Hb.out hlt J16.out).mono ?_; rintro e w4 ⟨rfl, rfl⟩; rw [Hxb.out])))
                 exact ⟨⟨k + 1, by omega, rfl, Hr2.out, trivial⟩, by simp [intOf]; omega⟩)
        · obtain rfl : k = 145 := by omega
          rw [show firstNot a b (145 - 145) 145 = -1 from rfl] at hr
          subst hr
          go_wp2
          go_ret2
          exact ⟨rfl, Below.refl _ _⟩
    · have e : partS a b = (0, keyFault b) := by unfold partS; rw [if_pos hk, if_neg hm]
      rw [e]
      have b1 : (keyFault b != 0) = true := by simpa using hm
      clear e hk hm
      go_enter Tryd.func118, Tryd.ntmps118
      go_wp2_with (go_at_call 107; (first | (with_reducible refine (pathCheck_ok _ A a c).mono ?_; rintro e w1 ⟨rfl, rfl⟩; rw [Hk.out]) | (with_reducible refine (pathCheck_ok _ B b d).mono ?_; rintro e w2 ⟨rfl, rfl⟩)))
      go_ret2
      exact ⟨rfl, Below.refl _ _⟩
  · have e : partS a b = (0, keyFault a) := by unfold partS; rw [if_neg hk]
    rw [e]
    have b1 : (keyFault a != 0) = true := by simpa using hk
    clear e hk
    go_enter Tryd.func118, Tryd.ntmps118
    go_wp2_with (go_at_call 107; refine (pathCheck_ok _ A a c).mono ?_; rintro e w1 ⟨rfl, rfl⟩)
    go_ret2
    exact ⟨rfl, Below.refl _ _⟩
set_option maxRecDepth 100000 in
set_option maxHeartbeats 1000000 in
theorem refPart_ok (w : World) (A B : Option Addr) (a b : List UInt8) (c d : Nat) (ha : Bs All w A a) (hb : Bs All w B b) (h16 : a.length ≤ 16) (j16 : b.length ≤ 16) :
    Calls Tryd.prog 126 #[.slice A a.length c, .slice B b.length d] w (RetV w (.int .i64 (firstNot a b 145 0))) := by
  have Ha := Lib.hid ha
  have Hb := Lib.hid hb
  have H16 := Lib.hid h16
  have J16 := Lib.hid j16
  obtain ⟨r, hr⟩ : ∃ r, r = firstNot a b 145 0 := ⟨_, rfl⟩
  rw [← hr]
  have Hr := Lib.hid hr
  have Hl := Lib.hid (all145_len h16)
  have Jl := Lib.hid (all145_len j16)
  clear ha hb hr h16 j16
  go_enter Tryd.func126, Tryd.ntmps126
  go_wp2_with fail
  (with_reducible refine (allBits_ok _ A a c Ha.out H16.out).mono ?_)
  rintro e w1 ⟨A1, d1, rfl, hs1, hb1⟩
  rw [Hl.out]
  have Hs1 := Lib.hid hs1
  have Hb1 := Lib.hid hb1
  clear hs1 hb1
  go_wp2_with fail
  (with_reducible refine (allBits_ok _ B b d (Hb.out.bbelow Hb1.out) J16.out).mono ?_)
  rintro e w2 ⟨B1, d2, rfl, hs2, hb2⟩
  rw [Jl.out]
  have hb02 := Hb1.out.next hb2 Hb1.out.size
  have Hs1' := Lib.hid (Hs1.out.below boolR_stays hb2)
  have Hs2 := Lib.hid hs2
  have Hb2 := Lib.hid hb02
  clear hs2 hb2 hb02 Hs1
  go_wp2
  go_loopw [7] (fun i wr => ∃ k : Nat, k ≤ 145 ∧ i = .int .i64 k ∧ r = firstNot a b (145 - k) k ∧ Below w2.heap.size w2 wr) (fun i _ => 145 - (intOf i).toNat)
  case atStart => exact ⟨0, by omega, rfl, Hr.out, Below.refl _ _⟩
  case round =>
    obtain ⟨k, hk, rfl, hr, hbel⟩ := hrel
    have Hbel := Lib.hid hbel
    clear hbel
    by_cases hlt : k < 145
    · rw [firstNot_at hlt] at hr
      obtain ⟨b1, o1, rfl, hl1, hc1⟩ := bit_at (Hs1'.out.below boolR_stays Hbel.out) H16.out hlt
      obtain ⟨b2, o2, rfl, hl2, hc2⟩ := bit_at (Hs2.out.z boolR_stays |>.below boolR_stays Hbel.out) J16.out hlt
      have hk0 : (0 : Int) ≤ (k : Int) := by omega
      have hk1 : (k : Int) < 145 := by omega
      rcases Bool.eq_false_or_eq_true (bitB a k) with hxa | hxa <;> rcases Bool.eq_false_or_eq_true (bitB b k) with hxb | hxb
      all_goals
        rw [hxa, hxb] at hr
        rw [hxa] at hc1
        rw [hxb] at hc2
        clear hxa hxb
        first
          | (rw [if_neg (by decide)] at hr
             have Hr2 := Lib.hid hr
             clear hr
             go_wp2_with fail
             go_quiet (fail)
             go_wp2
             go_ret
             exact ⟨by rw [Hr2.out]; simp, Hb2.out.next (below_drewN Hbel.out _) Hb2.out.size⟩)
          | (rw [if_pos rfl] at hr
             have Hr2 := Lib.hid hr
             clear hr
             go_wp2_with fail
             go_quiet (fail)
             go_wp2
             go_roundw
             case rel => exact ⟨k + 1, by omega, by go_num, Hr2.out, below_drewN Hbel.out _⟩
             case measure => simp [intOf]; omega)
    · obtain rfl : k = 145 := by omega
      rw [show firstNot a b (145 - 145) 145 = -1 from rfl] at hr
      subst hr
      go_wp2
      go_ret
      exact ⟨by simp, Hb2.out.next Hbel.out Hb2.out.size⟩
end Go.Proofs.YteacjkihjeiafaaDoor
