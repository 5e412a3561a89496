/- Walks: bytes behind their length. -/
import Derived.Test.YtddppmhpdgecgaaDoorBytes
namespace Go.Proofs.YtddppmhpdgecgaaDoor
open Go.RowKit
set_option linter.unusedVariables false
set_option linter.unusedSimpArgs false

/-- The blocks below n. -/
def Lo (n : Nat) (b : Nat) : Prop := b < n
theorem SL.low {α : Type} {size : Nat} {R : (Nat → Prop) → World → List Value → α → Prop} (hR : Stays R) {S : Nat → Prop} {w : World} {A : Option Addr} {l : List α} {n : Nat} (h : SL size R S w A l) (hn : w.heap.size ≤ n) : SL size R (Lo n) w A l :=
  h.less hR fun b hb _ => Nat.lt_of_lt_of_le hb hn
theorem Same.of_low {n : Nat} {w w' : World} (h : Below n w w') : Same (Lo n) w w' := ⟨h.size, fun k hk _ => h.block k hk⟩
/-- A block of bytes reads so. -/
theorem bs_block {S : Nat → Prop} {w : World} {g : Nat} {t : TypeId} {l : List UInt8} (h : w.heap[g]? = some (.cells (l.map bv).toArray t (0, 0))) (hS : S g) : Bs S w (some ⟨g, 0, none⟩) l := by
  intro _
  refine ⟨g, 0, rfl, hS, (Array.getElem?_eq_some_iff.1 h).1, fun i hi => ⟨[bv l[i]], rfl, fun j hj => ?_, rfl⟩⟩
  obtain rfl : j = 0 := by omega
  have := box_cell h (0 + i * 1 + 0)
  rw [this]
  simp [hi]
/-- Bytes behind their length. -/
def lpS (p : List UInt8) : List UInt8 := UInt8.ofNat p.length :: p
theorem lp_len (p : List UInt8) : (lpS p).length = p.length + 1 := rfl
theorem wrap_u8 (n : Nat) : IntKind.u8.wrap (n : Int) = ((UInt8.ofNat n).toNat : Int) := by
  simp [IntKind.wrap, IntKind.bits, IntKind.signed]
set_option maxRecDepth 100000 in
set_option maxHeartbeats 1000000 in
theorem lengthAnd_ok (w : World) (A : Option Addr) (p : List UInt8) (c : Nat) (ha : Bs All w A p) (hn : p.length + 1 ≤ big) :
    Calls Tryd.prog 83 #[.slice A p.length c] w (RetBs w (lpS p)) := by
  have Ha := Lib.hid ha
  have hw := wrap_u8 p.length
  have hn' : [UInt8.ofNat p.length].length + p.length ≤ big := by simp; omega
  have Hn := Lib.hid hn'
  clear ha hn hn'
  go_enter Tryd.func83, Tryd.ntmps83
  go_wp2_with (go_at_call 84; refine (joined_ok _ _ A [UInt8.ofNat p.length] p 1 c ?hx ?hy Hn.out).mono ?_; (case hx => (exact bs_block (g := w.heap.size) (box_new w _ _) trivial)); (case hy => (refine Ha.out.bbelow ?_; repeat' (first | exact Below.refl _ _ | assumption | refine Below.drew ?_ | refine below_drewN ?_ _ | refine Below.alloc ?_ (by first | exact Nat.le_refl _ | omega | (simp; done) | (simp; omega)) _))); rintro e w1 ⟨A1, c1, rfl, hs1, hb1⟩)
  go_ret
  exact ⟨A1, c1, rfl, hs1.blo (by simp), Below.next ((Below.refl _ _).alloc (Nat.le_refl _) _) hb1 (by simp)⟩
/-- The call appends onto a row of the caller's. -/
def RetApp (base : Nat) (w : World) (v : Value) (l : List UInt8) (e : Ending) (w' : World) : Prop :=
  ∃ v', e = .returned v' ∧ w'.ownsRow base 5 1 v' l.length (l.map bv) ∧ Below base w w' ∧ Same (fun b => b < w.heap.size ∧ v.ownBlock ≠ some b) w w' ∧ (∀ b, b < w.heap.size → v.ownBlock ≠ some b → v'.ownBlock ≠ some b)
set_option maxRecDepth 100000 in
set_option maxHeartbeats 1000000 in
theorem part_ok (w : World) (base : Nat) (v : Value) (l : List UInt8) (hown : w.ownsRow base 5 1 v l.length (l.map bv)) (P : Option Addr) (p : List UInt8) (c : Nat) (hp : Bs (Lo base) w P p) (hbase : base ≤ w.heap.size) (hn : l.length + p.length + 1 ≤ big) :
    Calls Tryd.prog 180 #[v, .slice P p.length c] w (RetApp base w v (l ++ lpS p)) := by
  unfold big at hn
  obtain ⟨i0, hi0, hz0, hz1, hz2⟩ := info_parts info_u8
  have Hown := Lib.hid hown
  have Hp := Lib.hid hp
  have hw := wrap_u8 p.length
  have Hw := Lib.hid hw
  clear hown hp
  go_enter Tryd.func180, Tryd.ntmps180
  go_wp2_with (first
    | (at_builtin; refine wpl_app _ rfl _ _ _ rfl base 5 i0 (.int .u8 0) 1 1 Tryd.underlying22 hi0 hz0 hz1 hz2 rfl (by decide) v l.length (l.map bv) rfl (Hown.out.alloc _) (some ⟨w.heap.size, 0, none⟩) 1 1 [bv (UInt8.ofNat p.length)] rfl rfl (by (first | exact one_src _ _ _ | (rw [Hw.out]; exact one_src _ _ _))) (by simp [bv, Value.oneCell']) (by unfold maxLen; omega) (by omega) (by simp; omega) ?_; intro v1 w1 hown1 hg1 hat1)
    | (at_builtin; refine wpl_app _ rfl _ _ _ rfl base 5 i0 (.int .u8 0) 1 1 Tryd.underlying22 hi0 hz0 hz1 hz2 rfl (by decide) v1 (l.length + 1) _ rfl hown1 P p.length c (p.map bv) rfl (by simp) (SL.bsrc (S := Lo base) (((Hp.out.bsame (Same.of_low ((Below.refl base w).alloc hbase _))).bsame (Same.of_low (own_below (Hown.out.alloc _) hg1 (by simp; omega)))))) (bv_one p) (by unfold maxLen; omega) (by omega) (by have := hg1.size; simp at this; omega) ?_; intro v2 w2 hown2 hg2 hat2))
  go_ret
  refine ⟨v2, rfl, ?_, ?_, ?_, ?_⟩
  · have e : l.length + 1 + p.length = (l ++ lpS p).length := by simp [lpS]; omega
    rw [← e]
    simpa [lpS, List.map_append] using hown2
  · exact (((Below.refl base w).alloc hbase _).trans (own_below (Hown.out.alloc _) hg1 (by simp; omega))).trans (own_below hown1 hg2 (by have := hg1.size; simp at this; omega))
  · refine Same.grown (Same.grown ((Same.refl _ w).alloc _) hg1 fun k hk hs => hs.2 hk) hg2 fun k hk hs => ?_
    rcases hat1 with h | h
    · rw [h] at hk; exact hs.2 hk
    · rw [h] at hk; cases hk; simp at hs; omega
  · intro b hb hv h
    have hz := hg1.size
    simp at hz
    rcases hat2 with h2 | h2
    · rw [h2] at h
      rcases hat1 with h1 | h1
      · rw [h1] at h; exact hv h
      · rw [h1] at h; cases h; simp at hb; omega
    · rw [h2] at h; cases h; omega
end Go.Proofs.YtddppmhpdgecgaaDoor
