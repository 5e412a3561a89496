/- Walks: tree.parted and tree.root. Pairs that rise, of which each may be. -/
import Derived.Test.YtjgdeeabejoegaaDoorRootA
namespace Go.Proofs.YtjgdeeabejoegaaDoor
open Go.RowKit
set_option linter.unusedVariables false
set_option linter.unusedSimpArgs false

theorem part_fst {l : List Pr} {d : Nat} (hp : Parts l d) (ht : Tree l) (h2 : 2 ≤ l.length) : partS (l[0]'(by omega)).1 (l[l.length - 1]'(by omega)).1 = ((d : Int), 0) := by
  have h := hp.last
  rw [getD_at (show 0 < l.length by omega), getD_at (show l.length - 1 < l.length by omega)] at h
  unfold partS
  rw [if_pos (ht.key _ (List.getElem_mem _)), if_pos (ht.key _ (List.getElem_mem _)), h]
theorem bit_key {a : List UInt8} {d : Nat} (hk : keyFault a = 0) (hd : d < 145) : bitS a d = (bitB a d, 0) := by
  unfold bitS
  rw [if_pos hk, if_pos ⟨by omega, by omega⟩]
  rfl
set_option maxRecDepth 100000 in
set_option maxHeartbeats 1000000 in
theorem treeParted_ok (w : World) (A : Option Addr) (l : List Pr) (c d : Nat) (ha : Ps All w A l) (hp : Parts l d) (h2 : 2 ≤ l.length) (h60 : l.length ≤ 60) (ht : Tree l) :
    Calls Tryd.prog 100 #[.slice A l.length c] w (RetV w (.tuple #[.int .i64 (d : Int), .int .i64 ((leftN l : Nat) : Int)])) := by
  obtain ⟨hn1, hn2, hbit⟩ := left_lt hp h2
  have Hbit := Lib.hid hbit
  have Hpt := Lib.hid (part_fst hp ht h2)
  have Ht := Lib.hid ht
  have Ha := Lib.hid ha
  have H144 := Lib.hid hp.d144
  obtain ⟨g, off, K0, c0, V0, d0, rfl, _, hgl, q0, _, hs0, _, _, _⟩ := pairs_at ha (show 0 < l.length by omega)
  obtain ⟨g', off', K1, c1, V1, d1, he, _, _, q1, _, hs1, _, _, _⟩ := pairs_at ha (show l.length - 1 < l.length by omega)
  cases he
  simp only [Nat.zero_mul, Nat.add_zero] at q0
  have Hs0 := Lib.hid hs0
  have Hs1 := Lib.hid hs1
  have mk : IntKind.i64.wrap ((l.length : Int) - 1) = ((l.length - 1 : Nat) : Int) := by rw [IntWalk.i64_in _ (by omega)]; omega
  have hi0 : (0 : Int) < (l.length : Int) := by omega
  have hi1 : ((l.length - 1 : Nat) : Int) < (l.length : Int) := by omega
  have hj0 : 0 < l.length := by omega
  have hj1 : l.length - 1 < l.length := by omega
  clear hbit ha hp ht hs0 hs1
  go_enter Tryd.func100, Tryd.ntmps100
  go_wp2_with fail
  go_region_held3 (fun w' => w'.cell? ⟨g, off, none⟩ = some (.slice K0 l[0].1.length c0) ∧ w'.cell? ⟨g, off + (l.length - 1) * 2, none⟩ = some (.slice K1 l[l.length - 1].1.length c1))
    (first
      | go_keep
      | (go_split_ands; refine ⟨(hb1.cell (by simp; omega)).trans (by assumption), (hb1.cell (by simp; omega)).trans (by assumption)⟩))
    ((go_at_call 111; (with_reducible refine (pathPart_ok _ K0 K1 _ _ c0 c1 ?h1 ?h2).mono ?_); (case h1 => exact Hs0.out.bz.bsame (by repeat' (first | exact Same.refl _ _ | assumption | refine Same.drew ?_ | refine Same.drewN ?_ _ | refine Same.alloc ?_ _ | refine Same.setCell ?_ (fun hq => by simp only [From] at hq; first | omega | (simp at hq; done) | (simp at hq; omega)) _))); (case h2 => exact Hs1.out.bz.bsame (by repeat' (first | exact Same.refl _ _ | assumption | refine Same.drew ?_ | refine Same.drewN ?_ _ | refine Same.alloc ?_ _ | refine Same.setCell ?_ (fun hq => by simp only [From] at hq; first | omega | (simp at hq; done) | (simp at hq; omega)) _))); rintro e w1 ⟨rfl, hb1⟩; rw [Hpt.out]))
  go_wp2
  have Hb1 := Lib.hid (show Below w.heap.size w w1 from by (refine Below.next (W := _) ?_ hb1 (by first | exact Nat.le_refl _ | simp); repeat' (first | exact Below.refl _ _ | assumption | refine Below.drew ?_ | refine below_drewN ?_ _ | refine Below.setCell ?_ (by first | (simp; done) | omega | (simp; omega)) _ | refine Below.alloc ?_ (by first | exact Nat.le_refl _ | omega | (simp; done) | (simp; omega)) _)))
  clear mk hi0 hi1
  go_loopw [6] (fun n wr => ∃ k : Nat, k ≤ leftN l ∧ n = .int .i64 k ∧ Below w.heap.size w wr) (fun n _ => l.length - (intOf n).toNat)
  case atStart => exact ⟨0, by omega, rfl, Hb1.out⟩
  case round =>
    obtain ⟨k, hk, rfl, hbel⟩ := hrel
    have Hbel := Lib.hid hbel
    clear hbel
    have hlt : k < l.length := by omega
    have hki : (k : Int) < (l.length : Int) := by omega
    have mk : IntKind.i64.wrap ((k : Int) + 1) = (k : Int) + 1 := IntWalk.i64_in _ (by omega)
    obtain ⟨g', off', K, c', V, d', he, _, hgl', q0, _, hs, _, _, _⟩ := pairs_at (Ha.out.below pairR_stays Hbel.out) hlt
    cases he
    have Hs := Lib.hid hs
    have Hbk := Lib.hid (bit_key (Ht.out.key _ (List.getElem_mem hlt)) (show d < 145 by have := H144.out; omega))
    have Hbt := Lib.hid (Hbit.out k hlt)
    generalize l[k] = x at *
    clear hs
    have Hlt := Lib.hid hlt
    by_cases hl : k < leftN l
    · have Hf := Lib.hid (show bitB x.1 d = false by rw [Hbt.out]; simp; omega)
      have Hl := Lib.hid hl
      clear hl
      go_wp2_with (go_at_call 68; (with_reducible refine (pathBit_ok _ K x.1 c' d ?ha).mono ?_); (case ha => exact Hs.out.bz); rintro e w2 ⟨rfl, hb2⟩; rw [Hbk.out, Hf.out])
      go_roundw
      case rel => exact ⟨k + 1, Hl.out, by go_num, Hbel.out.next hb2 Hbel.out.size⟩
      case measure => have hq := Hlt.out; simp [intOf]; omega
    · obtain rfl : k = leftN l := by omega
      have Hf := Lib.hid (show bitB x.1 d = true by rw [Hbt.out]; simp)
      clear hl
      go_wp2_with (go_at_call 68; (with_reducible refine (pathBit_ok _ K x.1 c' d ?ha).mono ?_); (case ha => exact Hs.out.bz); rintro e w2 ⟨rfl, hb2⟩; rw [Hbk.out, Hf.out])
      go_ret2
      exact ⟨rfl, Hbel.out.next hb2 Hbel.out.size⟩
set_option maxRecDepth 100000 in
set_option maxHeartbeats 1000000 in
theorem treeRoot_n : ∀ (n : Nat) (l : List Pr) (_ : l.length ≤ n) (w : World) (_ : TabsAt w) (A : Option Addr) (m c : Nat) (_ : m = l.length) (_ : Ps All w A l) (_ : 1 ≤ l.length) (_ : l.length ≤ 60) (_ : l.length ≤ c) (_ : Tree l),
    Calls Tryd.prog 48 #[.slice A m c] w (RetBs w (rootS l)) := by
  intro n
  induction n with
  | zero => intro l hl w hT A m c hm ha h1; omega
  | succ n ih =>
    intro l hl w hT A m c hm ha h1 h60 hc ht
    subst hm
    have HT := Lib.hid hT
    have Ha := Lib.hid ha
    clear hT
    by_cases h2 : l.length = 1
    · rw [root_one h2, getD_at (show 0 < l.length by omega)]
      have Hp := Lib.hid (show l[0].1.length + l[0].2.length ≤ 3000 by have := ht.k16 (List.getElem_mem (show 0 < l.length by omega)); have := ht.val _ (List.getElem_mem (show 0 < l.length by omega)); omega)
      obtain ⟨g, off, K0, c0, V0, d0, rfl, _, hgl, q0, q1, hs0, hs1, _, _⟩ := pairs_at ha (show 0 < l.length by omega)
      simp only [Nat.zero_mul, Nat.add_zero] at q0 q1
      have Hs0 := Lib.hid hs0
      have Hs1 := Lib.hid hs1
      generalize l[0] = x at *
      rw [h2]
      clear hl ha h1 h60 hc ht hs0 hs1 h2 ih
      go_enter Tryd.func48, Tryd.ntmps48
      go_wp2_with (go_at_call 99; (with_reducible refine (treeLeaf_ok _ HT.out K0 V0 x c0 d0 Hs0.out.bz Hs1.out.bz Hp.out).mono ?_); rintro e1 w1 ⟨B1, e1, rfl, hr1, hb1⟩)
      go_ret
      exact ⟨B1, _, rfl, hr1, hb1⟩
    · have h22 : 2 ≤ l.length := by omega
      obtain ⟨d, hp⟩ := ht.parts h22
      obtain ⟨hn1, hn2, _⟩ := left_lt hp h22
      have Hv := Lib.hid (root_two ht h22)
      rw [hp.bit] at Hv
      have Hpar := Lib.hid (treeParted_ok w A l c d ha hp h22 h60 ht)
      have Hx := Lib.hid (ih (l.take (leftN l)) (by rw [List.length_take]; omega))
      have Hy := Lib.hid (ih (l.drop (leftN l)) (by rw [List.length_drop]; omega))
      have Htx := Lib.hid (ht.take (leftN l))
      have Hty := Lib.hid (ht.drop (leftN l))
      have Hd := Lib.hid hp.d144
      obtain ⟨g, off, _, _, _, _, rfl, _, hgl, _⟩ := pairs_at ha (show 0 < l.length by omega)
      have Hax := Lib.hid (show ∀ W, Below w.heap.size w W → Ps All W (some ⟨g, off, none⟩) (l.take (leftN l)) from fun W hW => by have := SL.cut (Ha.out.below pairR_stays hW) 0 (leftN l); simpa using this)
      have Hay := Lib.hid (show ∀ W, Below w.heap.size w W → Ps All W (some ⟨g, off + leftN l * 2, none⟩) (l.drop (leftN l)) from fun W hW => by have := SL.cut (Ha.out.below pairR_stays hW) (leftN l) l.length; rw [List.take_of_length_le (by rw [List.length_drop]; omega)] at this; exact this)
      generalize hk : leftN l = k at *
      have Hlx := Lib.hid (show (l.take k).length = k by rw [List.length_take]; omega)
      have Hly := Lib.hid (show (l.drop k).length = l.length - k by rw [List.length_drop])
      generalize l.take k = x at *
      generalize l.drop k = y at *
      have hki : (k : Int) ≤ (l.length : Int) := by omega
      have hkc : (k : Int) ≤ (c : Int) := by omega
      have hlc : (l.length : Int) ≤ (c : Int) := by omega
      have hkn : k ≤ l.length := by omega
      have hkm : k ≤ c := by omega
      clear hl ha ht hp ih h2 hk
      go_enter Tryd.func48, Tryd.ntmps48
      go_wp2_with (go_at_call 100; (with_reducible refine Hpar.out.mono ?_); rintro e1 w1 ⟨rfl, hb1⟩)
      go_region_held3 (fun _ => True)
        (trivial)
        (first
          | (go_at_call 48; (with_reducible refine (Hx.out _ ?hT _ _ _ ?hm ?ha ?h1 ?h60 ?hc ?ht).mono ?_); (case hm => exact Hlx.out.symm); (case hT => (refine HT.out.below ?_; repeat' (first | exact Below.refl _ _ | assumption | refine Below.drew ?_ | refine below_drewN ?_ _ | refine Below.setCell ?_ (by first | (simp; done) | omega | (simp; omega)) _ | refine Below.alloc ?_ (by first | exact Nat.le_refl _ | omega | (simp; done) | (simp; omega)) _))); (case ha => (refine Hax.out _ ?_; repeat' (first | exact Below.refl _ _ | assumption | refine Below.drew ?_ | refine below_drewN ?_ _ | refine Below.setCell ?_ (by first | (simp; done) | omega | (simp; omega)) _ | refine Below.alloc ?_ (by first | exact Nat.le_refl _ | omega | (simp; done) | (simp; omega)) _))); (case h1 => (rw [Hlx.out]; exact hn1)); (case h60 => (rw [Hlx.out]; omega)); (case hc => (rw [Hlx.out]; omega)); (case ht => exact Htx.out); rintro e2 w2 ⟨X, cx, rfl, hsx, hb2⟩; have hq2 : Below w.heap.size w w2 := (Below.next (by repeat' (first | exact Below.refl _ _ | assumption | refine Below.drew ?_ | refine below_drewN ?_ _ | refine Below.setCell ?_ (by first | (simp; done) | omega | (simp; omega)) _ | refine Below.alloc ?_ (by first | exact Nat.le_refl _ | omega | (simp; done) | (simp; omega)) _)) hb2 hb1.size))
          | (go_at_call 48; (with_reducible refine (Hy.out _ ?hT _ _ _ ?hm ?ha ?h1 ?h60 ?hc ?ht).mono ?_); (case hm => exact Hly.out.symm); (case hT => (refine HT.out.below ?_; repeat' (first | exact Below.refl _ _ | assumption | refine Below.drew ?_ | refine below_drewN ?_ _ | refine Below.setCell ?_ (by first | (simp; done) | omega | (simp; omega)) _ | refine Below.alloc ?_ (by first | exact Nat.le_refl _ | omega | (simp; done) | (simp; omega)) _))); (case ha => (refine Hay.out _ ?_; repeat' (first | exact Below.refl _ _ | assumption | refine Below.drew ?_ | refine below_drewN ?_ _ | refine Below.setCell ?_ (by first | (simp; done) | omega | (simp; omega)) _ | refine Below.alloc ?_ (by first | exact Nat.le_refl _ | omega | (simp; done) | (simp; omega)) _))); (case h1 => (rw [Hly.out]; omega)); (case h60 => (rw [Hly.out]; omega)); (case hc => (rw [Hly.out]; omega)); (case ht => exact Hty.out); rintro e3 w3 ⟨Y, cy, rfl, hsy, hb3⟩; have hq3 : Below w.heap.size w w3 := (Below.next (by repeat' (first | exact Below.refl _ _ | assumption | refine Below.drew ?_ | refine below_drewN ?_ _ | refine Below.setCell ?_ (by first | (simp; done) | omega | (simp; omega)) _ | refine Below.alloc ?_ (by first | exact Nat.le_refl _ | omega | (simp; done) | (simp; omega)) _)) hb3 hq2.size))
          | (go_at_call 101; (with_reducible refine (treeFork_ok _ ?hT X Y d _ _ cx cy ?ha ?hb ?hl ?hd).mono ?_); (case hT => (refine HT.out.below ?_; repeat' (first | exact Below.refl _ _ | assumption | refine Below.drew ?_ | refine below_drewN ?_ _ | refine Below.setCell ?_ (by first | (simp; done) | omega | (simp; omega)) _ | refine Below.alloc ?_ (by first | exact Nat.le_refl _ | omega | (simp; done) | (simp; omega)) _))); (case ha => exact (hsx.bsame (Same.trans (by repeat' (first | exact Same.refl _ _ | assumption | refine Same.drew ?_ | refine Same.drewN ?_ _ | refine Same.alloc ?_ _ | refine Same.setCell ?_ (fun hq => by simp only [From] at hq; first | omega | (simp at hq; done) | (simp at hq; omega)) _)) (Same.of_below hb3))).bz); (case hb => exact (hsy.bsame (by repeat' (first | exact Same.refl _ _ | assumption | refine Same.drew ?_ | refine Same.drewN ?_ _ | refine Same.alloc ?_ _ | refine Same.setCell ?_ (fun hq => by simp only [From] at hq; first | omega | (simp at hq; done) | (simp at hq; omega)) _))).bz); (case hl => (rw [rootS_len, rootS_len]; omega)); (case hd => (have := Hd.out; omega)); rintro e4 w4 ⟨Z, cz, rfl, hsz, hb4⟩; have hq4 : Below w.heap.size w w4 := (Below.next (by repeat' (first | exact Below.refl _ _ | assumption | refine Below.drew ?_ | refine below_drewN ?_ _ | refine Below.setCell ?_ (by first | (simp; done) | omega | (simp; omega)) _ | refine Below.alloc ?_ (by first | exact Nat.le_refl _ | omega | (simp; done) | (simp; omega)) _)) hb4 hq3.size)))
      go_wp2
      go_ret
      rw [Hv.out]
      exact ⟨Z, cz, rfl, hsz.blo hq3.size, hq4⟩
theorem treeRoot_ok (w : World) (hT : TabsAt w) (A : Option Addr) (l : List Pr) (c : Nat) (ha : Ps All w A l) (h1 : 1 ≤ l.length) (h60 : l.length ≤ 60) (hc : l.length ≤ c) (ht : Tree l) : Calls Tryd.prog 48 #[.slice A l.length c] w (RetBs w (rootS l)) :=
  treeRoot_n l.length l (Nat.le_refl _) w hT A l.length c rfl ha h1 h60 hc ht
/-- What tree.Root and RootOf answer. -/
def rootE (l : List Pr) : List UInt8 × Int := if pairsFaultS l = 0 then (rootS l, 0) else ([], pairsFaultS l)
set_option maxRecDepth 100000 in
set_option maxHeartbeats 1000000 in
theorem treeRootE_ok (w : World) (hT : TabsAt w) (A : Option Addr) (l : List Pr) (c : Nat) (ha : Ps All w A l) (hc : l.length ≤ c) : Calls Tryd.prog 25 #[.slice A l.length c] w (RetBsE w (rootE l)) := by
  have HT := Lib.hid hT
  have Ha := Lib.hid ha
  clear hT ha
  by_cases hf : pairsFaultS l = 0
  · have Ht := Lib.hid (tree_of hf)
    have H60 := Lib.hid (pairs_fine hf).1
    have Hv := Lib.hid (show rootE l = (rootS l, 0) by rw [rootE, if_pos hf])
    have Hf := Lib.hid hf
    clear hf
    by_cases h0 : l.length = 0
    · have Hz := Lib.hid (root_zero h0)
      have hz : ((l.length : Int) == 0) = true := by simp [h0]
      have hz' : decide ((l.length : Int) = 0) = true := by simp [h0]
      clear h0
      go_enter Tryd.func25, Tryd.ntmps25
      go_wp2_with (first
        | (go_at_call 47; (with_reducible refine (treeCheck_ok _ A l c Ha.out).mono ?_); rintro e1 w1 ⟨rfl, hb1⟩; rw [Hf.out])
        | (go_at_call 22; (with_reducible refine (partsNone_ok _ ?hT _).mono ?_); (case hT => (refine HT.out.below ?_; repeat' (first | exact Below.refl _ _ | assumption | refine Below.drew ?_ | refine below_drewN ?_ _ | refine Below.setCell ?_ (by first | (simp; done) | omega | (simp; omega)) _ | refine Below.alloc ?_ (by first | exact Nat.le_refl _ | omega | (simp; done) | (simp; omega)) _))); rintro e2 w2 ⟨B, d, rfl, hs, hb2⟩; have hq2 : Below w.heap.size w w2 := (Below.next (by repeat' (first | exact Below.refl _ _ | assumption | refine Below.drew ?_ | refine below_drewN ?_ _ | refine Below.setCell ?_ (by first | (simp; done) | omega | (simp; omega)) _ | refine Below.alloc ?_ (by first | exact Nat.le_refl _ | omega | (simp; done) | (simp; omega)) _)) hb2 hb1.size)))
      go_ret2
      rw [Hv.out, Hz.out]
      exact ⟨B, d, rfl, hs.blo hb1.size, hq2⟩
    · have H1 := Lib.hid (show 1 ≤ l.length by omega)
      have hz : ((l.length : Int) == 0) = false := by rw [beq_eq_false_iff_ne]; omega
      have hz' : decide ((l.length : Int) = 0) = false := decide_eq_false (by omega)
      clear h0
      go_enter Tryd.func25, Tryd.ntmps25
      go_wp2_with (first
        | (go_at_call 47; (with_reducible refine (treeCheck_ok _ A l c Ha.out).mono ?_); rintro e1 w1 ⟨rfl, hb1⟩; rw [Hf.out])
        | (go_at_call 48; (with_reducible refine (treeRoot_ok _ ?hT A l c ?ha H1.out H60.out hc Ht.out).mono ?_); (case hT => (refine HT.out.below ?_; repeat' (first | exact Below.refl _ _ | assumption | refine Below.drew ?_ | refine below_drewN ?_ _ | refine Below.setCell ?_ (by first | (simp; done) | omega | (simp; omega)) _ | refine Below.alloc ?_ (by first | exact Nat.le_refl _ | omega | (simp; done) | (simp; omega)) _))); (case ha => (refine Ha.out.below pairR_stays ?_; repeat' (first | exact Below.refl _ _ | assumption | refine Below.drew ?_ | refine below_drewN ?_ _ | refine Below.setCell ?_ (by first | (simp; done) | omega | (simp; omega)) _ | refine Below.alloc ?_ (by first | exact Nat.le_refl _ | omega | (simp; done) | (simp; omega)) _))); rintro e2 w2 ⟨B, d, rfl, hs, hb2⟩; have hq2 : Below w.heap.size w w2 := (Below.next (by repeat' (first | exact Below.refl _ _ | assumption | refine Below.drew ?_ | refine below_drewN ?_ _ | refine Below.setCell ?_ (by first | (simp; done) | omega | (simp; omega)) _ | refine Below.alloc ?_ (by first | exact Nat.le_refl _ | omega | (simp; done) | (simp; omega)) _)) hb2 hb1.size)))
      go_ret2
      rw [Hv.out]
      exact ⟨B, d, rfl, hs.blo hb1.size, hq2⟩
  · have Hv := Lib.hid (show rootE l = ([], pairsFaultS l) by rw [rootE, if_neg hf])
    have hb : (pairsFaultS l != 0) = true := by simpa using hf
    clear hf
    go_enter Tryd.func25, Tryd.ntmps25
    go_wp2_with ((go_at_call 47; (with_reducible refine (treeCheck_ok _ A l c Ha.out).mono ?_); rintro e1 w1 ⟨rfl, hb1⟩))
    go_ret2
    rw [Hv.out]
    exact ⟨none, 0, rfl, SL.nil, hb1⟩
end Go.Proofs.YtjgdeeabejoegaaDoor
