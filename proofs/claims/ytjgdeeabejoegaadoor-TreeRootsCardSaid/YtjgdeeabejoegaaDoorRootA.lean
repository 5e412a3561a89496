/- Walks: the digests of a leaf and of a fork, in the program and in the document's answer. Keys and values are short. -/
import Derived.Test.YtjgdeeabejoegaaDoorRootL
namespace Go.Proofs.YtjgdeeabejoegaaDoor
open Go.RowKit
set_option linter.unusedVariables false
set_option linter.unusedSimpArgs false

/-- A block that holds cells, as a slice. -/
theorem sl_block {α : Type} {size : Nat} {R : (Nat → Prop) → World → List Value → α → Prop} {S : Nat → Prop} {w : World} {g : Nat} {t : TypeId} {cs : List Value} {l : List α} (h : w.heap[g]? = some (.cells cs.toArray t (0, 0))) (hS : S g)
    (hR : ∀ i (hi : i < l.length), ∃ c : List Value, c.length = size ∧ (∀ j, j < size → cs[i * size + j]? = c[j]?) ∧ R S w c l[i]) : SL size R S w (some ⟨g, 0, none⟩) l := by
  intro _
  refine ⟨g, 0, rfl, hS, (Array.getElem?_eq_some_iff.1 h).1, fun i hi => ?_⟩
  obtain ⟨c, h1, h2, h3⟩ := hR i hi
  exact ⟨c, h1, fun j hj => by rw [Nat.zero_add, box_cell h, h2 j hj], h3⟩
theorem box_at {w : World} {n : Nat} (cs : Array Value) (t : TypeId) (h : w.heap.size = n) : (w.alloc (.cells cs t)).heap[n]? = some (.cells cs t (0, 0)) := h ▸ heap_alloc_new w _
theorem bls_two {w : World} {g : Nat} {t : TypeId} {A B : Option Addr} {a b : Nat} {x y : List UInt8} (h : w.heap[g]? = some (.cells #[.slice A x.length a, .slice B y.length b] t (0, 0))) (h1 : Bs All w A x) (h2 : Bs All w B y) (g1 : x.length ≤ big) (g2 : y.length ≤ big) : Bls All w (some ⟨g, 0, none⟩) [x, y] := by
  refine sl_block (cs := [.slice A x.length a, .slice B y.length b]) h trivial fun i hi => ?_
  match i, hi with
  | 0, _ => exact ⟨[.slice A x.length a], rfl, fun j hj => by obtain rfl : j = 0 := by omega
                                                              rfl, A, a, rfl, h1, g1⟩
  | 1, _ => exact ⟨[.slice B y.length b], rfl, fun j hj => by obtain rfl : j = 0 := by omega
                                                              rfl, B, b, rfl, h2, g2⟩
theorem bls_three {w : World} {g : Nat} {t : TypeId} {A B C : Option Addr} {a b c : Nat} {x y z : List UInt8} (h : w.heap[g]? = some (.cells #[.slice A x.length a, .slice B y.length b, .slice C z.length c] t (0, 0))) (h1 : Bs All w A x) (h2 : Bs All w B y) (h3 : Bs All w C z) (g1 : x.length ≤ big) (g2 : y.length ≤ big) (g3 : z.length ≤ big) : Bls All w (some ⟨g, 0, none⟩) [x, y, z] := by
  refine sl_block (cs := [.slice A x.length a, .slice B y.length b, .slice C z.length c]) h trivial fun i hi => ?_
  match i, hi with
  | 0, _ => exact ⟨[.slice A x.length a], rfl, fun j hj => by obtain rfl : j = 0 := by omega
                                                              rfl, A, a, rfl, h1, g1⟩
  | 1, _ => exact ⟨[.slice B y.length b], rfl, fun j hj => by obtain rfl : j = 0 := by omega
                                                              rfl, B, b, rfl, h2, g2⟩
  | 2, _ => exact ⟨[.slice C z.length c], rfl, fun j hj => by obtain rfl : j = 0 := by omega
                                                              rfl, C, c, rfl, h3, g3⟩
/-- One byte in a block of its own. -/
theorem bs_one {w : World} {g : Nat} {t : TypeId} {b : UInt8} (h : w.heap[g]? = some (.cells #[bv b] t (0, 0))) : Bs All w (some ⟨g, 0, none⟩) [b] := by
  refine sl_block (cs := [bv b]) h trivial fun i hi => ?_
  obtain rfl : i = 0 := by simpa using hi
  exact ⟨[bv b], rfl, fun j hj => by obtain rfl : j = 0 := by omega
                                     rfl, rfl⟩
theorem bv_bit {d : Nat} (h : d < 256) : (.int .u8 (d : Int) : Value) = bv (UInt8.ofNat (d : Int).toNat) := by
  have : (UInt8.ofNat (d : Int).toNat).toNat = d := by simp; omega
  rw [bv, this]
theorem partsLeaf_ok (w : World) (hT : TabsAt w) (A : Option Addr) (p : Pr) (c : Nat) (ha : Bls All w A [p.1, p.2]) (h : p.1.length + p.2.length ≤ 3000) : Calls Tryd.prog 22 #[.int .u8 1, .slice A 2 c] w (RetBsE w (leafS p, 0)) := by
  have := parts_ok w hT 1 A [p.1, p.2] c ha (by simp)
  rw [parts_leaf h] at this
  exact this
theorem partsFork_ok (w : World) (hT : TabsAt w) (A : Option Addr) (d : Nat) (a b : List UInt8) (c : Nat) (ha : Bls All w A [[UInt8.ofNat (d : Int).toNat], a, b]) (h : a.length + b.length ≤ 3000) : Calls Tryd.prog 22 #[.int .u8 2, .slice A 3 c] w (RetBsE w (forkS d a b, 0)) := by
  have := parts_ok w hT 2 A [[UInt8.ofNat (d : Int).toNat], a, b] c ha (by simp)
  rw [parts_fork h] at this
  exact this
theorem partsNone_ok (w : World) (hT : TabsAt w) (c : Nat) : Calls Tryd.prog 22 #[.int .u8 0, .slice none 0 c] w (RetBsE w (noneS, 0)) := parts_ok w hT 0 none [] c SL.nil (by simp)
theorem refLeaf_ok (w : World) (A : Option Addr) (p : Pr) (c : Nat) (ha : Bls All w A [p.1, p.2]) (h : p.1.length + p.2.length ≤ 3000) : Calls Tryd.prog 23 #[.int .u8 1, .slice A 2 c] w (RetBsE w (leafS p, 0)) := by
  have := partsOf_ok' w 1 A [p.1, p.2] c ha (by simp)
  rw [parts_leaf h] at this
  exact this
theorem refFork_ok (w : World) (A : Option Addr) (d : Nat) (a b : List UInt8) (c : Nat) (ha : Bls All w A [[UInt8.ofNat (d : Int).toNat], a, b]) (h : a.length + b.length ≤ 3000) : Calls Tryd.prog 23 #[.int .u8 2, .slice A 3 c] w (RetBsE w (forkS d a b, 0)) := by
  have := partsOf_ok' w 2 A [[UInt8.ofNat (d : Int).toNat], a, b] c ha (by simp)
  rw [parts_fork h] at this
  exact this
set_option maxRecDepth 100000 in
set_option maxHeartbeats 1000000 in
theorem treeLeaf_ok (w : World) (hT : TabsAt w) (A B : Option Addr) (p : Pr) (c d : Nat) (ha : Bs All w A p.1) (hb : Bs All w B p.2) (h : p.1.length + p.2.length ≤ 3000) :
    Calls Tryd.prog 99 #[.agg #[.slice A p.1.length c, .slice B p.2.length d]] w (RetBs w (leafS p)) := by
  have HT := Lib.hid hT
  have Ha := Lib.hid ha
  have Hb := Lib.hid hb
  have Hl := Lib.hid h
  clear hT ha hb h
  go_enter Tryd.func99, Tryd.ntmps99
  go_wp2_with (first
    | (go_at_call 22; (with_reducible refine (partsLeaf_ok _ ?hT _ p _ ?ha Hl.out).mono ?_); (case hT => (refine HT.out.below ?_; repeat' (first | exact Below.refl _ _ | assumption | refine Below.drew ?_ | refine below_drewN ?_ _ | refine Below.setCell ?_ (by first | (simp; done) | omega | (simp; omega)) _ | refine Below.alloc ?_ (by first | exact Nat.le_refl _ | omega | (simp; done) | (simp; omega)) _))); (case ha => (refine bls_two (box_at _ _ (by simp)) (Ha.out.bbelow ?_) (Hb.out.bbelow ?_) (by have := Hl.out; unfold big; omega) (by have := Hl.out; unfold big; omega); repeat' (first | exact Below.refl _ _ | assumption | refine Below.drew ?_ | refine below_drewN ?_ _ | refine Below.setCell ?_ (by first | (simp; done) | omega | (simp; omega)) _ | refine Below.alloc ?_ (by first | exact Nat.le_refl _ | omega | (simp; done) | (simp; omega)) _))); rintro e1 w1 ⟨B1, d1, rfl, hs1, hb1⟩))
  go_ret
  refine ⟨B1, d1, rfl, hs1.blo (by simp; omega), ?_⟩
  refine Below.next (W := _) ?_ hb1 (by simp; omega)
  repeat' (first | exact Below.refl _ _ | assumption | refine Below.drew ?_ | refine below_drewN ?_ _ | refine Below.setCell ?_ (by first | (simp; done) | omega | (simp; omega)) _ | refine Below.alloc ?_ (by first | exact Nat.le_refl _ | omega | (simp; done) | (simp; omega)) _)
set_option maxRecDepth 100000 in
set_option maxHeartbeats 1000000 in
theorem treeFork_ok (w : World) (hT : TabsAt w) (A B : Option Addr) (d : Nat) (x y : List UInt8) (a b : Nat) (ha : Bs All w A x) (hb : Bs All w B y) (h : x.length + y.length ≤ 3000) (hd : d < 256) :
    Calls Tryd.prog 101 #[.int .i64 (d : Int), .slice A x.length a, .slice B y.length b] w (RetBs w (forkS d x y)) := by
  have HT := Lib.hid hT
  have Ha := Lib.hid ha
  have Hb := Lib.hid hb
  have Hl := Lib.hid h
  have mk : IntKind.u8.wrap (d : Int) = (d : Int) := IntWalk.u8_in _ (by omega)
  have Hv := Lib.hid (bv_bit hd)
  clear hT ha hb h hd
  go_enter Tryd.func101, Tryd.ntmps101
  go_wp2_with (first
    | (go_at_call 22; (with_reducible refine (partsFork_ok _ ?hT _ d x y _ ?ha Hl.out).mono ?_); (case hT => (refine HT.out.below ?_; repeat' (first | exact Below.refl _ _ | assumption | refine Below.drew ?_ | refine below_drewN ?_ _ | refine Below.setCell ?_ (by first | (simp; done) | omega | (simp; omega)) _ | refine Below.alloc ?_ (by first | exact Nat.le_refl _ | omega | (simp; done) | (simp; omega)) _))); (case ha => (refine bls_three (x := [UInt8.ofNat (d : Int).toNat]) (a := 1) (box_at _ _ (by simp)) (bs_one ((heap_alloc_old _ _ (by simp)).trans (by rw [← Hv.out]; exact box_at _ _ rfl))) (Ha.out.bbelow ?_) (Hb.out.bbelow ?_) (by simp [big]) (by have := Hl.out; unfold big; omega) (by have := Hl.out; unfold big; omega); repeat' (first | exact Below.refl _ _ | assumption | refine Below.drew ?_ | refine below_drewN ?_ _ | refine Below.setCell ?_ (by first | (simp; done) | omega | (simp; omega)) _ | refine Below.alloc ?_ (by first | exact Nat.le_refl _ | omega | (simp; done) | (simp; omega)) _))); rintro e1 w1 ⟨B1, d1, rfl, hs1, hb1⟩))
  go_ret
  refine ⟨B1, d1, rfl, hs1.blo (by simp; omega), ?_⟩
  refine Below.next (W := _) ?_ hb1 (by simp; omega)
  repeat' (first | exact Below.refl _ _ | assumption | refine Below.drew ?_ | refine below_drewN ?_ _ | refine Below.setCell ?_ (by first | (simp; done) | omega | (simp; omega)) _ | refine Below.alloc ?_ (by first | exact Nat.le_refl _ | omega | (simp; done) | (simp; omega)) _)
set_option maxRecDepth 100000 in
set_option maxHeartbeats 1000000 in
theorem leafDigest_ok (w : World) (A B : Option Addr) (p : Pr) (c d : Nat) (ha : Bs All w A p.1) (hb : Bs All w B p.2) (h : p.1.length + p.2.length ≤ 3000) :
    Calls Tryd.prog 104 #[.agg #[.slice A p.1.length c, .slice B p.2.length d]] w (RetBs w (leafS p)) := by
  have Ha := Lib.hid ha
  have Hb := Lib.hid hb
  have Hl := Lib.hid h
  clear ha hb h
  go_enter Tryd.func104, Tryd.ntmps104
  go_wp2_with (first
    | (go_at_call 23; (with_reducible refine (refLeaf_ok _ _ p _ ?ha Hl.out).mono ?_); (case ha => (refine bls_two (box_at _ _ (by simp)) (Ha.out.bbelow ?_) (Hb.out.bbelow ?_) (by have := Hl.out; unfold big; omega) (by have := Hl.out; unfold big; omega); repeat' (first | exact Below.refl _ _ | assumption | refine Below.drew ?_ | refine below_drewN ?_ _ | refine Below.setCell ?_ (by first | (simp; done) | omega | (simp; omega)) _ | refine Below.alloc ?_ (by first | exact Nat.le_refl _ | omega | (simp; done) | (simp; omega)) _))); rintro e1 w1 ⟨B1, d1, rfl, hs1, hb1⟩))
  go_ret
  refine ⟨B1, d1, rfl, hs1.blo (by simp; omega), ?_⟩
  refine Below.next (W := _) ?_ hb1 (by simp; omega)
  repeat' (first | exact Below.refl _ _ | assumption | refine Below.drew ?_ | refine below_drewN ?_ _ | refine Below.setCell ?_ (by first | (simp; done) | omega | (simp; omega)) _ | refine Below.alloc ?_ (by first | exact Nat.le_refl _ | omega | (simp; done) | (simp; omega)) _)
set_option maxRecDepth 100000 in
set_option maxHeartbeats 1000000 in
theorem forkDigest_ok (w : World) (A B : Option Addr) (d : Nat) (x y : List UInt8) (a b : Nat) (ha : Bs All w A x) (hb : Bs All w B y) (h : x.length + y.length ≤ 3000) (hd : d < 256) :
    Calls Tryd.prog 105 #[.int .i64 (d : Int), .slice A x.length a, .slice B y.length b] w (RetBs w (forkS d x y)) := by
  have Ha := Lib.hid ha
  have Hb := Lib.hid hb
  have Hl := Lib.hid h
  have mk : IntKind.u8.wrap (d : Int) = (d : Int) := IntWalk.u8_in _ (by omega)
  have Hv := Lib.hid (bv_bit hd)
  clear ha hb h hd
  go_enter Tryd.func105, Tryd.ntmps105
  go_wp2_with (first
    | (go_at_call 23; (with_reducible refine (refFork_ok _ _ d x y _ ?ha Hl.out).mono ?_); (case ha => (refine bls_three (x := [UInt8.ofNat (d : Int).toNat]) (a := 1) (box_at _ _ (by simp)) (bs_one ((heap_alloc_old _ _ (by simp)).trans (by rw [← Hv.out]; exact box_at _ _ rfl))) (Ha.out.bbelow ?_) (Hb.out.bbelow ?_) (by simp [big]) (by have := Hl.out; unfold big; omega) (by have := Hl.out; unfold big; omega); repeat' (first | exact Below.refl _ _ | assumption | refine Below.drew ?_ | refine below_drewN ?_ _ | refine Below.setCell ?_ (by first | (simp; done) | omega | (simp; omega)) _ | refine Below.alloc ?_ (by first | exact Nat.le_refl _ | omega | (simp; done) | (simp; omega)) _))); rintro e1 w1 ⟨B1, d1, rfl, hs1, hb1⟩))
  go_ret
  refine ⟨B1, d1, rfl, hs1.blo (by simp; omega), ?_⟩
  refine Below.next (W := _) ?_ hb1 (by simp; omega)
  repeat' (first | exact Below.refl _ _ | assumption | refine Below.drew ?_ | refine below_drewN ?_ _ | refine Below.setCell ?_ (by first | (simp; done) | omega | (simp; omega)) _ | refine Below.alloc ?_ (by first | exact Nat.le_refl _ | omega | (simp; done) | (simp; omega)) _)
theorem digNone_ok (w : World) (A : Option Addr) (c : Nat) (ha : Bs All w A [0]) : Calls Tryd.prog 45 #[.slice A 1 c] w (RetBs w noneS) := digested_ok w A [0] c ha (by simp)
set_option maxRecDepth 100000 in
set_option maxHeartbeats 1000000 in
theorem noneDigest_ok (w : World) : Calls Tryd.prog 63 #[] w (RetBs w noneS) := by
  go_enter Tryd.func63, Tryd.ntmps63
  go_wp2_with (first
    | (go_at_call 45; (with_reducible refine (digNone_ok _ _ _ ?ha).mono ?_); (case ha => exact bs_one (box_at _ _ rfl)); rintro e1 w1 ⟨B1, d1, rfl, hs1, hb1⟩))
  go_ret
  refine ⟨B1, d1, rfl, hs1.blo (by simp), ?_⟩
  refine Below.next (W := _) ?_ hb1 (by simp)
  repeat' (first | exact Below.refl _ _ | assumption | refine Below.drew ?_ | refine below_drewN ?_ _ | refine Below.setCell ?_ (by first | (simp; done) | omega | (simp; omega)) _ | refine Below.alloc ?_ (by first | exact Nat.le_refl _ | omega | (simp; done) | (simp; omega)) _)
end Go.Proofs.YtjgdeeabejoegaaDoor
