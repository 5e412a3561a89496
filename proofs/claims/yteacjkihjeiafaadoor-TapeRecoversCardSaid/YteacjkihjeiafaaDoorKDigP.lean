/- DigP: Walks: digest.Sum, DigestOf; the law DigestSums. Walks: digest.Parts, PartsOf. The conditions of each are in its words. -/
import Derived.Test.YteacjkihjeiafaaDoorKSum
import Derived.Test.YteacjkihjeiafaaDoorKDigD
import Derived.Test.YteacjkihjeiafaaDoorKBase
namespace Go.Proofs.YteacjkihjeiafaaDoor
open Go.RowKit
set_option linter.unusedVariables false
set_option linter.unusedSimpArgs false

/-- What digest.Sum and DigestOf answer. -/
def sumS (b : List UInt8) : List UInt8 × Int := if 4000 < b.length then ([], 1) else (digS b, 0)
/-- The call returns bytes and a number. -/
def RetBsE (w : World) (r : List UInt8 × Int) (e : Ending) (w' : World) : Prop :=
  ∃ B d, e = .returned (.tuple #[.slice B r.1.length d, .int .i64 r.2]) ∧ Bs (From w.heap.size) w' B r.1 ∧ Below w.heap.size w w'
set_option maxRecDepth 100000 in
set_option maxHeartbeats 1000000 in
theorem digSum_ok (w : World) (hT : TabsAt w) (A : Option Addr) (b : List UInt8) (c : Nat) (ha : Bs All w A b) :
    Calls Tryd.prog 51 #[.slice A b.length c] w (RetBsE w (sumS b)) := by
  have HT := Lib.hid hT
  have Ha := Lib.hid ha
  clear hT ha
  by_cases hlt : 4000 < b.length
  · have Hv := Lib.hid (show sumS b = ([], 1) by unfold sumS; rw [if_pos hlt])
    have h1 : (4000 : Int) < (b.length : Int) := by omega
    go_enter Tryd.func51, Tryd.ntmps51
    go_wp2
    go_ret2
    rw [Hv.out]
    exact ⟨none, 0, rfl, SL.nil, Below.refl _ _⟩
  · have Hv := Lib.hid (show sumS b = (digS b, 0) by unfold sumS; rw [if_neg hlt])
    have h1 : ¬ (4000 : Int) < (b.length : Int) := by omega
    have hs := sum_ok w A b c Ha.out (by omega) HT.out
    go_enter Tryd.func51, Tryd.ntmps51
    go_wp2_with ((go_at_call 90; (with_reducible refine hs.mono ?_); rintro e w1 ⟨B, d, rfl, hb, hb1⟩))
    go_ret2
    rw [Hv.out]
    exact ⟨B, d, rfl, hb, hb1⟩
end Go.Proofs.YteacjkihjeiafaaDoor
namespace Go.Proofs.YteacjkihjeiafaaDoor
open Go.RowKit
set_option linter.unusedVariables false
set_option linter.unusedSimpArgs false

/-- A datum that is a []byte. -/
def BlR (S : Nat → Prop) (w : World) (cs : List Value) (b : List UInt8) : Prop := ∃ A c, cs = [.slice A b.length c] ∧ Bs S w A b ∧ b.length ≤ big
theorem blR_stays : Stays BlR :=
  ⟨fun _ _ _ _ _ hb ⟨A, c, h0, h1, h2⟩ => ⟨A, c, h0, h1.bsame hb, h2⟩, fun _ _ _ _ _ hb ⟨A, c, h0, h1, h2⟩ => ⟨A, c, h0, h1.bless hb, h2⟩⟩
abbrev Bls (S : Nat → Prop) (w : World) (A : Option Addr) (l : List (List UInt8)) : Prop := SL 1 BlR S w A l
theorem bls_at {S : Nat → Prop} {w : World} {A : Option Addr} {l : List (List UInt8)} (h : Bls S w A l) {k : Nat} (hk : k < l.length) :
    ∃ b off K c, A = some ⟨b, off, none⟩ ∧ S b ∧ b < w.heap.size ∧ w.cell? ⟨b, off + k, none⟩ = some (.slice K l[k].length c) ∧ Bs S w K l[k] ∧ l[k].length ≤ big := by
  obtain ⟨b, off, cs, e, h0, hlt, h1, h2, A', c, rfl, h3, h4⟩ := h.at hk
  exact ⟨b, off, A', c, e, h0, hlt, by simpa using h2 0 (by omega), h3, h4⟩
/-- The call returns a row of its own. -/
def RetOwn (w : World) (l : List UInt8) (e : Ending) (w' : World) : Prop :=
  ∃ v, e = .returned v ∧ w'.ownsRow w.heap.size 5 1 v l.length (l.map bv) ∧ Below w.heap.size w w'
set_option maxRecDepth 100000 in
set_option maxHeartbeats 400000 in
theorem joined_own (w : World) (A B : Option Addr) (a b : List UInt8) (c d : Nat) (ha : Bs All w A a) (hb : Bs All w B b) (hn : a.length + b.length ≤ big) :
    Calls Tryd.prog 55 #[.slice A a.length c, .slice B b.length d] w (RetOwn w (a ++ b)) := by
  unfold big at hn
  obtain ⟨i0, hi0, hz0, hz1, hz2⟩ := info_parts info_u8
  have Ha := Lib.hid ha
  have Hb := Lib.hid hb
  clear ha hb
  go_enter Tryd.func55, Tryd.ntmps55
  go_wp2
  go_loopw [5, 6] (fun v i wr => ∃ k : Nat, k ≤ a.length ∧ i = .int .i64 k ∧ wr.ownsRow w.heap.size 5 1 v k ((a.take k).map bv) ∧ Below w.heap.size w wr) (fun _ i _ => a.length - (intOf i).toNat)
  case atStart => exact ⟨0, by omega, rfl, World.ownsRow_nil _ _ _ _, Below.refl _ _⟩
  case round =>
    obtain ⟨k, hk, rfl, hown, hbel⟩ := hrel
    have Hbel := Lib.hid hbel
    have Hown := Lib.hid hown
    clear hown hbel
    by_cases hlt : k < a.length
    · obtain ⟨ab, ao, rfl, _, hal, hcell⟩ := (Ha.out.bbelow Hbel.out).bat hlt
      have Hsn := Lib.hid (take_snoc a k hlt)
      generalize a[k] = x at *
      go_wp2_with (at_builtin; refine wpl_app _ rfl _ _ _ rfl w.heap.size 5 i0 (.int .u8 0) 1 1 Tryd.underlying22 hi0 hz0 hz1 hz2 rfl (by decide) _ k _ rfl (Hown.out.alloc _) (some ⟨wr.heap.size, 0, none⟩) 1 1 [bv x] rfl rfl (one_src _ _ _) (by simp [bv, Value.oneCell']) (by unfold maxLen; omega) (by omega) (by have := Hbel.out.size; simp; omega) ?_; intro v1 w1 hown1 hg1 hat1)
      go_roundw
      case rel => exact ⟨k + 1, by omega, by go_num, by rw [Hsn.out]; simpa using hown1, (Hbel.out.alloc (Hbel.out.size) _).trans (own_below (Hown.out.alloc _) hg1 (by have := Hbel.out.size; simp; omega))⟩
      case measure => simp [intOf]; omega
    · obtain rfl : k = a.length := by omega
      have hown1 := Hown.out
      rw [List.take_length] at hown1
      have Hown1 := Lib.hid hown1
      clear Hown hlt hk hown1
      go_wp2
      obtain ⟨wm, rfl⟩ : ∃ wm : World, wm = wr := ⟨_, rfl⟩
      go_loopw [5, 7] (fun v i wr => ∃ k : Nat, k ≤ b.length ∧ i = .int .i64 k ∧ wr.ownsRow w.heap.size 5 1 v (a.length + k) ((a ++ b.take k).map bv) ∧ Below w.heap.size w wr) (fun _ i _ => b.length - (intOf i).toNat)
      case atStart => exact ⟨0, by omega, rfl, by simpa using Hown1.out, Hbel.out⟩
      case round =>
        clear Hown1 Hbel
        obtain ⟨k, hk, rfl, hown, hbel⟩ := hrel
        have Hbel := Lib.hid hbel
        have Hown := Lib.hid hown
        clear hown hbel
        by_cases hlt : k < b.length
        · obtain ⟨ab, ao, rfl, _, hal, hcell⟩ := (Hb.out.bbelow Hbel.out).bat hlt
          have Hsn := Lib.hid (take_snoc b k hlt)
          generalize b[k] = x at *
          go_wp2_with (at_builtin; refine wpl_app _ rfl _ _ _ rfl w.heap.size 5 i0 (.int .u8 0) 1 1 Tryd.underlying22 hi0 hz0 hz1 hz2 rfl (by decide) _ (a.length + k) _ rfl (Hown.out.alloc _) (some ⟨wr.heap.size, 0, none⟩) 1 1 [bv x] rfl rfl (one_src _ _ _) (by simp [bv, Value.oneCell']) (by unfold maxLen; omega) (by omega) (by have := Hbel.out.size; simp; omega) ?_; intro v1 w1 hown1 hg1 hat1)
          go_roundw
          case rel => exact ⟨k + 1, by omega, by go_num, by rw [Hsn.out]; simpa [Nat.add_assoc] using hown1, (Hbel.out.alloc (Hbel.out.size) _).trans (own_below (Hown.out.alloc _) hg1 (by have := Hbel.out.size; simp; omega))⟩
          case measure => simp [intOf]; omega
        · obtain rfl : k = b.length := by omega
          go_wp2
          go_ret
          exact ⟨_, rfl, by have h := Hown.out; rw [List.take_length] at h; rwa [List.length_append], Hbel.out⟩


/-- A part's length in two bytes. -/
def hdr2 (p : List UInt8) : List UInt8 := [UInt8.ofNat (p.length / 256), UInt8.ofNat p.length]
/-- All parts behind b; none: too long. -/
def partsT (b : List UInt8) : List (List UInt8) → Option (List UInt8)
  | [] => some b
  | p :: r => if p.length ≤ 4000 ∧ b.length + 2 + p.length ≤ 4000 then partsT (b ++ hdr2 p ++ p) r else none
/-- What digest.Parts and PartsOf answer. -/
def partsS (k : UInt8) (l : List (List UInt8)) : List UInt8 × Int := match partsT [k] l with
  | none => ([], 1)
  | some b => (digS b, 0)
theorem partsT_bad {b p : List UInt8} {r : List (List UInt8)} (h : ¬ (p.length ≤ 4000 ∧ b.length + 2 + p.length ≤ 4000)) : partsT b (p :: r) = none := by rw [partsT, if_neg h]
theorem partsT_ok {b p : List UInt8} {r : List (List UInt8)} (h : p.length ≤ 4000 ∧ b.length + 2 + p.length ≤ 4000) : partsT b (p :: r) = partsT (b ++ hdr2 p ++ p) r := by rw [partsT, if_pos h]
theorem parts_none {k : UInt8} {l : List (List UInt8)} (h : partsT [k] l = none) : partsS k l = ([], 1) := by unfold partsS; rw [h]
theorem parts_some {k : UInt8} {l : List (List UInt8)} {b : List UInt8} (h : partsT [k] l = some b) : partsS k l = (digS b, 0) := by unfold partsS; rw [h]
theorem mod_ofNat (n : Nat) : UInt8.ofNat (n % 256) = UInt8.ofNat n := by
  apply UInt8.toNat_inj.1
  rw [UInt8.toNat_ofNat', UInt8.toNat_ofNat']
  omega
set_option maxRecDepth 100000 in
set_option maxHeartbeats 4000000 in
theorem parts_ok (w : World) (hT : TabsAt w) (kb : UInt8) (A : Option Addr) (l : List (List UInt8)) (c : Nat) (ha : Bls All w A l) (hn : l.length * 24 ≤ 140737488355328) :
    Calls Tryd.prog 70 #[.int .u8 (kb.toNat : Int), .slice A l.length c] w (RetBsE w (partsS kb l)) := by
  obtain ⟨i0, hi0, hz0, hz1, hz2⟩ := info_parts info_u8
  have HT := Lib.hid hT
  have Ha := Lib.hid (SL.low blR_stays ha (Nat.le_refl w.heap.size))
  clear hT ha
  go_enter Tryd.func70, Tryd.ntmps70
  go_wp2
  have Hr0 := Lib.hid (show (w.alloc (.cells #[.int .u8 (kb.toNat : Int)] 5)).ownsRow w.heap.size 5 1 (.slice (some ⟨w.heap.size, 0, none⟩) 1 1) [kb].length ([kb].map bv) from World.ownsRow_lit w #[.int .u8 (kb.toNat : Int)] 1 (Nat.le_refl _) (by unfold maxLen; omega) rfl)
  go_loopw [6, 8, 13] (fun v _ i wr => ∃ (k : Nat) (bk : List UInt8), k ≤ l.length ∧ i = .int .i64 k ∧ wr.ownsRow w.heap.size 5 1 v bk.length (bk.map bv) ∧ partsT bk (l.drop k) = partsT [kb] l ∧ bk.length ≤ 4000 ∧ Below w.heap.size w wr) (fun _ _ i _ => l.length - (intOf i).toNat)
  case atStart => exact ⟨0, [kb], by omega, rfl, Hr0.out, by rw [List.drop_zero], by simp, (Below.refl _ _).alloc (Nat.le_refl _) _⟩
  case round =>
    clear Hr0
    obtain ⟨k, bk, hk, rfl, hown, hpt, hbk, hbel⟩ := hrel
    obtain ⟨A1, cap1, rfl⟩ := own_slice hown
    have Hown := Lib.hid hown
    have Hbel := Lib.hid hbel
    have Hpt := Lib.hid hpt
    clear hown hbel hpt
    by_cases hlt : k < l.length
    · have hki : (k : Int) < (l.length : Int) := by omega
      have mk : IntKind.i64.wrap ((k : Int) + 1) = (k : Int) + 1 := IntWalk.i64_in _ (by omega)
      obtain ⟨ab, ao, K, cp, rfl, _, hal, hcell, hs, hpb⟩ := bls_at (Ha.out.same blR_stays (Same.of_low Hbel.out)) hlt
      have Hs := Lib.hid hs
      have Hdr := Lib.hid (List.drop_eq_getElem_cons hlt)
      generalize l[k] = p at *
      have Hp2 := Lib.hid (show partsT bk (p :: l.drop (k + 1)) = partsT [kb] l by rw [← Hdr.out]; exact Hpt.out)
      clear hs Hdr Hpt
      by_cases h1 : 4000 < p.length
      · have Hv := Lib.hid (parts_none (Hp2.out.symm.trans (partsT_bad (by omega))))
        have z1 : (4000 : Int) < (p.length : Int) := by omega
        go_wp2
        go_ret2
        rw [Hv.out]
        exact ⟨none, 0, rfl, SL.nil, Hbel.out⟩
      · have z1 : ¬ (4000 : Int) < (p.length : Int) := by omega
        have m1 : IntKind.i64.wrap ((bk.length : Int) + 2) = (bk.length : Int) + 2 := IntWalk.i64_in _ (by omega)
        have m2 : IntKind.i64.wrap ((bk.length : Int) + 2 + (p.length : Int)) = (bk.length : Int) + 2 + (p.length : Int) := IntWalk.i64_in _ (by omega)
        by_cases h2 : 4000 < bk.length + 2 + p.length
        · have Hv := Lib.hid (parts_none (Hp2.out.symm.trans (partsT_bad (by omega))))
          have z2 : (4000 : Int) < (bk.length : Int) + 2 + (p.length : Int) := by omega
          go_wp2
          go_ret2
          rw [Hv.out]
          exact ⟨none, 0, rfl, SL.nil, Hbel.out⟩
        · have Hnx := Lib.hid (Hp2.out.symm.trans (partsT_ok (by omega)))
          have z2 : ¬ (4000 : Int) < (bk.length : Int) + 2 + (p.length : Int) := by omega
          obtain ⟨hi, hhi⟩ : ∃ hi, hi = UInt8.ofNat (p.length / 256) := ⟨_, rfl⟩
          obtain ⟨lo, hlo⟩ : ∃ lo, lo = UInt8.ofNat p.length := ⟨_, rfl⟩
          have t1 : IntKind.u8.wrap ((p.length : Int) / 256) = (hi.toNat : Int) := by rw [hhi, ← wrap_u8]; rfl
          have t2 : IntKind.u8.wrap (p.length : Int) = (lo.toNat : Int) := by rw [hlo, ← wrap_u8]
          have Hl2 := Lib.hid (show hdr2 p = [hi, lo] by rw [hhi, hlo]; rfl)
          clear hhi hlo
          go_wp2_with (first
            | (at_builtin; refine wpl_app _ rfl _ _ _ rfl w.heap.size 5 i0 (.int .u8 0) 1 1 Tryd.underlying22 hi0 hz0 hz1 hz2 rfl (by decide) _ bk.length (bk.map bv) rfl (Hown.out.alloc _) (some ⟨wr.heap.size, 0, none⟩) 2 2 [bv hi, bv lo] rfl rfl (fun _ => new_src _ _ [bv hi, bv lo] _ rfl) (by simp [bv, Value.oneCell']) (by unfold maxLen; omega) (by omega) (by have := Hbel.out.size; simp; omega) ?_; intro v1 w1 hown1 hg1 hat1)
            | (at_builtin; refine wpl_app _ rfl _ _ _ rfl w.heap.size 5 i0 (.int .u8 0) 1 1 Tryd.underlying22 hi0 hz0 hz1 hz2 rfl (by decide) v1 (bk.length + 2) _ rfl hown1 K p.length cp (p.map bv) rfl (by simp) ?hsrc (bv_one p) (by unfold maxLen; omega) (by omega) ?hbz ?_; (case hsrc => exact SL.bsrc (S := Lo w.heap.size) ((Hs.out.bsame (Same.of_low ((Below.refl w.heap.size wr).alloc Hbel.out.size _))).bsame (Same.of_low (own_below (Hown.out.alloc _) hg1 (by have := Hbel.out.size; simp; omega))))); (case hbz => (have e1 := hg1.size; have e2 := Hbel.out.size; simp at e1; omega)); intro v2 w2 hown2 hg2 hat2))
          have Hown2 := Lib.hid (show w2.ownsRow w.heap.size 5 1 v2 (bk ++ hdr2 p ++ p).length ((bk ++ hdr2 p ++ p).map bv) by
            rw [Hl2.out]
            have e : (bk ++ [hi, lo] ++ p).length = bk.length + 2 + p.length := by simp; omega
            rw [e]
            simpa [List.map_append] using hown2)
          have hz1 := hg1.size
          have Hb2 := Lib.hid (show Below w.heap.size w w2 from ((Hbel.out.alloc Hbel.out.size _).trans (own_below (Hown.out.alloc _) hg1 (by have := Hbel.out.size; simp; omega))).trans (own_below hown1 hg2 (by have e2 := Hbel.out.size; simp at hz1; omega)))
          have hlb : (bk ++ hdr2 p ++ p).length ≤ 4000 := by simp [hdr2]; omega
          clear hown1 hg1 hat1 hown2 hg2 hat2 hz1
          go_roundw
          case rel => exact ⟨k + 1, bk ++ hdr2 p ++ p, by omega, by go_num, Hown2.out, Hnx.out.symm, hlb, Hb2.out⟩
          case measure => simp [intOf]; omega
    · have Hv := Lib.hid (show partsS kb l = (digS bk, 0) by have h := Hpt.out; rw [List.drop_eq_nil_of_le (by omega)] at h; exact parts_some h.symm)
      have hki : ¬ (k : Int) < (l.length : Int) := by omega
      have hbs := SL.bof_own Hown.out
      have hsm := sum_ok wr A1 bk cap1 hbs.2.bz (by omega) (HT.out.below Hbel.out)
      clear hlt hk Hpt
      go_wp2_with ((go_at_call 90; (with_reducible refine hsm.mono ?_); rintro e w1 ⟨B, d, rfl, hb, hb1⟩))
      go_ret2
      rw [Hv.out]
      exact ⟨B, d, rfl, hb.blo Hbel.out.size, Hbel.out.next hb1 Hbel.out.size⟩
set_option maxRecDepth 100000 in
set_option maxHeartbeats 4000000 in
theorem partsOf_ok' (w : World) (kb : UInt8) (A : Option Addr) (l : List (List UInt8)) (c : Nat) (ha : Bls All w A l) (hn : l.length * 24 ≤ 140737488355328) :
    Calls Tryd.prog 135 #[.int .u8 (kb.toNat : Int), .slice A l.length c] w (RetBsE w (partsS kb l)) := by
  obtain ⟨i0, hi0, hz0, hz1, hz2⟩ := info_parts info_u8
  have Ha := Lib.hid (SL.low blR_stays ha (Nat.le_refl w.heap.size))
  clear ha
  go_enter Tryd.func135, Tryd.ntmps135
  go_wp2
  have Hr0 := Lib.hid (show (w.alloc (.cells #[.int .u8 (kb.toNat : Int)] 5)).ownsRow w.heap.size 5 1 (.slice (some ⟨w.heap.size, 0, none⟩) 1 1) [kb].length ([kb].map bv) from World.ownsRow_lit w #[.int .u8 (kb.toNat : Int)] 1 (Nat.le_refl _) (by unfold maxLen; omega) rfl)
  go_loopw [6, 7, 8] (fun v i _ wr => ∃ (k : Nat) (bk : List UInt8), k ≤ l.length ∧ i = .int .i64 k ∧ wr.ownsRow w.heap.size 5 1 v bk.length (bk.map bv) ∧ partsT bk (l.drop k) = partsT [kb] l ∧ bk.length ≤ 4000 ∧ Below w.heap.size w wr) (fun _ i _ _ => l.length - (intOf i).toNat)
  case atStart => exact ⟨0, [kb], by omega, rfl, Hr0.out, by rw [List.drop_zero], by simp, (Below.refl _ _).alloc (Nat.le_refl _) _⟩
  case round =>
    clear Hr0
    obtain ⟨k, bk, hk, rfl, hown, hpt, hbk, hbel⟩ := hrel
    obtain ⟨A1, cap1, rfl⟩ := own_slice hown
    have Hown := Lib.hid hown
    have Hbel := Lib.hid hbel
    have Hpt := Lib.hid hpt
    clear hown hbel hpt
    by_cases hlt : k < l.length
    · have hki : (k : Int) < (l.length : Int) := by omega
      have mk : IntKind.i64.wrap ((k : Int) + 1) = (k : Int) + 1 := IntWalk.i64_in _ (by omega)
      obtain ⟨ab, ao, K, cp, rfl, hab, hal, hcell, hs, hpb⟩ := bls_at (Ha.out.same blR_stays (Same.of_low Hbel.out)) hlt
      have Hs := Lib.hid hs
      have Hdr := Lib.hid (List.drop_eq_getElem_cons hlt)
      generalize l[k] = p at *
      have Hp2 := Lib.hid (show partsT bk (p :: l.drop (k + 1)) = partsT [kb] l by rw [← Hdr.out]; exact Hpt.out)
      clear hs Hdr Hpt
      by_cases h1 : 4000 < p.length
      · have Hv := Lib.hid (parts_none (Hp2.out.symm.trans (partsT_bad (by omega))))
        have z1 : (4000 : Int) < (p.length : Int) := by omega
        go_wp2
        go_ret2
        rw [Hv.out]
        exact ⟨none, 0, rfl, SL.nil, Hbel.out⟩
      · have z1 : ¬ (4000 : Int) < (p.length : Int) := by omega
        have m1 : IntKind.i64.wrap ((p.length : Int) + 2) = (p.length : Int) + 2 := IntWalk.i64_in _ (by omega)
        have m2 : IntKind.i64.wrap ((p.length : Int) + 2 + (bk.length : Int)) = (p.length : Int) + 2 + (bk.length : Int) := IntWalk.i64_in _ (by omega)
        by_cases h2 : 4000 < bk.length + 2 + p.length
        · have Hv := Lib.hid (parts_none (Hp2.out.symm.trans (partsT_bad (by omega))))
          have z2 : (4000 : Int) < (p.length : Int) + 2 + (bk.length : Int) := by omega
          go_wp2
          go_ret2
          rw [Hv.out]
          exact ⟨none, 0, rfl, SL.nil, Hbel.out⟩
        · have Hnx := Lib.hid (Hp2.out.symm.trans (partsT_ok (by omega)))
          have z2 : ¬ (4000 : Int) < (p.length : Int) + 2 + (bk.length : Int) := by omega
          obtain ⟨hi, hhi⟩ : ∃ hi, hi = UInt8.ofNat (p.length / 256) := ⟨_, rfl⟩
          obtain ⟨lo, hlo⟩ : ∃ lo, lo = UInt8.ofNat p.length := ⟨_, rfl⟩
          obtain ⟨q, hq⟩ : ∃ q, q = p.length / 256 := ⟨_, rfl⟩
          obtain ⟨r, hr⟩ : ∃ r, r = p.length % 256 := ⟨_, rfl⟩
          have t1 : (p.length : Int).tdiv 256 = (q : Int) := by rw [Int.tdiv_eq_ediv_of_nonneg (by omega)]; omega
          have t2 : (p.length : Int).tmod 256 = (r : Int) := by rw [Int.tmod_eq_emod_of_nonneg (by omega)]; omega
          have t3 : IntKind.i64.wrap (q : Int) = (q : Int) := IntWalk.i64_in _ (by omega)
          have t4 : IntKind.u8.wrap (q : Int) = (hi.toNat : Int) := by rw [hhi, ← hq, wrap_u8]
          have t5 : IntKind.u8.wrap (r : Int) = (lo.toNat : Int) := by rw [hlo, wrap_u8, hr, mod_ofNat]
          have Hl2 := Lib.hid (show hdr2 p = [hi, lo] by rw [hhi, hlo]; rfl)
          have hlb : (bk ++ hdr2 p).length + p.length ≤ 4000 := by simp [hdr2]; omega
          have hlb1 : (bk ++ hdr2 p).length = bk.length + 2 := by simp [hdr2]
          clear hhi hlo hq hr
          go_wp2_with (first
            | (at_builtin; refine wpl_app _ rfl _ _ _ rfl w.heap.size 5 i0 (.int .u8 0) 1 1 Tryd.underlying22 hi0 hz0 hz1 hz2 rfl (by decide) _ bk.length (bk.map bv) rfl (Hown.out.alloc _) (some ⟨wr.heap.size, 0, none⟩) 2 2 [bv hi, bv lo] rfl rfl (fun _ => new_src _ _ [bv hi, bv lo] _ rfl) (by simp [bv, Value.oneCell']) (by unfold maxLen; omega) (by omega) (by have := Hbel.out.size; simp; omega) ?_; intro v1 w1 hown1 hg1 hat1; obtain ⟨A2, cap2, rfl⟩ := own_slice hown1; have hb1 := ((Below.refl w.heap.size wr).alloc Hbel.out.size _).trans (own_below (Hown.out.alloc _) hg1 (by have := Hbel.out.size; simp; omega)); have hcell1 := (hb1.cell (show (⟨ab, ao + k, none⟩ : Addr).block < w.heap.size from hab)).trans hcell; have hj := joined_own w1 A2 K (bk ++ hdr2 p) p cap2 cp (SL.bof_own (show w1.ownsRow w.heap.size 5 1 (.slice A2 (bk.length + 2) cap2) (bk.length + 2) ((bk ++ hdr2 p).map bv) by rw [Hl2.out, List.map_append]; exact hown1)).2.bz ((Hs.out.bsame (Same.of_low hb1)).bz) (by unfold big; omega); rw [hlb1] at hj)
            | (go_at_call 55; (with_reducible refine hj.mono ?_); rintro e w2 ⟨v2, rfl, hown2, hb2⟩))
          have Hown2 := Lib.hid (show w2.ownsRow w.heap.size 5 1 v2 (bk ++ hdr2 p ++ p).length ((bk ++ hdr2 p ++ p).map bv) from own_base hown2 (Nat.le_trans Hbel.out.size hb1.size))
          have Hb2 := Lib.hid (show Below w.heap.size w w2 from (Hbel.out.trans hb1).next hb2 (Nat.le_trans Hbel.out.size hb1.size))
          have hlb2 : (bk ++ hdr2 p ++ p).length ≤ 4000 := by rw [List.length_append]; exact hlb
          clear hown1 hg1 hat1 hown2 hb1 hb2 hj hcell1
          go_roundw
          case rel => exact ⟨k + 1, bk ++ hdr2 p ++ p, by omega, by go_num, Hown2.out, Hnx.out.symm, hlb2, Hb2.out⟩
          case measure => simp [intOf]; omega
    · have Hv := Lib.hid (show partsS kb l = (digS bk, 0) by have h := Hpt.out; rw [List.drop_eq_nil_of_le (by omega)] at h; exact parts_some h.symm)
      have hki : ¬ (k : Int) < (l.length : Int) := by omega
      have hbs := SL.bof_own Hown.out
      have hsm := digested_ok wr A1 bk cap1 hbs.2.bz (by omega)
      clear hlt hk Hpt
      go_wp2_with ((go_at_call 56; (with_reducible refine hsm.mono ?_); rintro e w1 ⟨B, d, rfl, hb, hb1⟩))
      go_ret2
      rw [Hv.out]
      exact ⟨B, d, rfl, hb.blo Hbel.out.size, Hbel.out.next hb1 Hbel.out.size⟩
end Go.Proofs.YteacjkihjeiafaaDoor
