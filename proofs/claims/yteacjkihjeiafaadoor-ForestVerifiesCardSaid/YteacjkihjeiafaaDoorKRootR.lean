/- RootR: Walk: canopyref.sides, of pairs that rise, of which each may be: the bit at which they part, and both sides. Walks: canopyref.rootOf and RootOf; the law TreeRoots. The conditions of each are in its words. -/
import Derived.Test.YteacjkihjeiafaaDoorKRoot
import Derived.Test.YteacjkihjeiafaaDoorKBase
import Derived.Test.YteacjkihjeiafaaDoorKTrees
namespace Go.Proofs.YteacjkihjeiafaaDoor
open Go.RowKit
set_option linter.unusedVariables false
set_option linter.unusedSimpArgs false

/-- A row of the call's own is so still, where neither it nor what its elements lie in has turned. -/
theorem Own.kept {α : Type} {size : Nat} {R : (Nat → Prop) → World → List Value → α → Prop} {S T : Nat → Prop} {w w' : World} {base : Nat} {e : TypeId} {v : Value} {l : List α} (hR : Stays R) (h : Own size R S w base e v l) (hb : Same T w w') (hST : ∀ b, b < w.heap.size → S b → T b) (hv : ∀ b, v.ownBlock = some b → T b) : Own size R S w' base e v l := by
  obtain ⟨xs, h1, h2⟩ := h
  refine ⟨xs, ⟨h1.1, ?_⟩, fun i hi => ?_⟩
  · rcases h1.2 with hn | ⟨g, cap, cur, hv', hb', hh, rest⟩
    · exact .inl hn
    · refine .inr ⟨g, cap, cur, hv', hb', ?_, rest⟩
      rw [hb.block g (hv g (by rw [hv']; rfl)) (Array.getElem?_eq_some_iff.1 hh).1]
      exact hh
  · have h3 := hR.less _ (fun b => (S b ∧ v.ownBlock ≠ some b) ∧ T b) w _ _ (fun b hb2 hs => ⟨hs, hST b hb2 hs.1⟩) (h2 i hi)
    have h4 := hR.same _ w w' _ _ ⟨hb.size, fun k hk hk2 => hb.block k hk.2 hk2⟩ h3
    exact hR.less _ _ _ _ _ (fun b _ hs => hs.1) h4
theorem wpl_snocR {P : Program} {α : Type} {R : (Nat → Prop) → World → List Value → α → Prop} (hR : Stays R) {S : Nat → Prop} (w : World) {ops : Array Oper} {rest : List Oper} {o : Oper} {a : Act} {Q : Exit → Act → World → Prop} (hgd : o.guard = none) (s x : Operand) (t : TypeId)
    (ho : o.op = .call { callee := .builtin .append, args := #[s, x], argTypes := #[t, t] })
    (base : Nat) (e : TypeId) (i : TypeInfo) (z : Value) (size bytes : Nat) (ht : P.underlying t = some (.slice e)) (hi : P.info? e = some i) (hz : i.zero = some z)
    (hsize : i.size = size) (hby : i.bytes = bytes) (hzs : z.cells.size = size) (hsz : 0 < size)
    (v : Value) (l : List α) (hs : a.eval s = v) (hown : Own size R S w base e v l)
    (A : Option Addr) (c : Nat) (cs : List Value) (hx : a.eval x = .slice A 1 c) (hl : cs.length = size) (hsrc : ∃ ad, A = some ad ∧ ∀ j u, cs[j]? = some u → w.cell? (ad.add j) = some u) (h1 : ∀ u ∈ cs, u.oneCell' = true)
    (h63 : l.length + 1 ≤ maxLen) (hbytes : (l.length + 1) * bytes ≤ 140737488355328) (hbase : base ≤ w.heap.size)
    (d : α) (hd : R (fun b => S b ∧ v.ownBlock ≠ some b) w cs d)
    (h : ∀ v' w', Own size R S w' base e v' (l ++ [d]) → Below base w w' → w.grownBy w' v.ownBlock → (v'.ownBlock = v.ownBlock ∨ v'.ownBlock = some w.heap.size) → wpList P ops Q rest (a.put o.dst v') w') : wpList P ops Q (o :: rest) a w := by
  obtain ⟨xs, hx1, hx2⟩ := hown
  exact wpl_app w hgd s x t ho base e i z size bytes ht hi hz hsize hby hzs hsz v l.length xs hs hx1 A 1 c cs hx (by omega) (fun _ => hsrc) h1 h63 hbytes hbase
    fun v' w' g1 g2 g3 => h v' w' (Own.snoc hR hx2 hx1 g1 g2 g3 hd hl) (own_below hx1 g2 hbase) g2 g3
theorem Own.lts {α : Type} {size : Nat} {R : (Nat → Prop) → World → List Value → α → Prop} {S : Nat → Prop} {w : World} {base : Nat} {e : TypeId} {v : Value} {l : List α} (h : Own size R S w base e v l) {b : Nat} (hb : v.ownBlock = some b) : base ≤ b ∧ b < w.heap.size := by
  obtain ⟨xs, h1, _⟩ := h
  exact h1.lt b hb
theorem Own.slices {α : Type} {size : Nat} {R : (Nat → Prop) → World → List Value → α → Prop} {S : Nat → Prop} {w : World} {base : Nat} {e : TypeId} {v : Value} {l : List α} (hR : Stays R) (h : Own size R S w base e v l) : ∃ A c, v = .slice A l.length c ∧ l.length ≤ c ∧ SL size R (fun b => S b ∨ From base b) w A l := by
  have h' : Own size R (fun b => S b ∨ From base b) w base e v l := by
    obtain ⟨xs, h1, h2⟩ := h
    exact ⟨xs, h1, fun i hi => hR.less _ _ _ _ _ (fun b _ hs => ⟨.inl hs.1, hs.2⟩) (h2 i hi)⟩
  obtain ⟨xs, h1, h2⟩ := h'
  have h1' := h1
  rcases h1.2 with ⟨rfl, h0⟩ | ⟨g, cap, cur, rfl, hge, hh, hcap, _⟩
  · have hl := List.eq_nil_of_length_eq_zero h0
    subst hl
    exact ⟨none, 0, rfl, Nat.le_refl _, SL.nil⟩
  · refine ⟨_, cap, rfl, hcap, fun _ => ⟨g, 0, rfl, .inr hge, (Array.getElem?_eq_some_iff.1 hh).1, fun i hi => ⟨_, ?_, fun j hj => ?_, hR.less _ _ _ _ _ (fun b _ hs => hs.1) (h2 i hi)⟩⟩⟩
    · rw [List.length_take, List.length_drop, h1'.1]
      have : (i + 1) * size ≤ l.length * size := Nat.mul_le_mul_right _ hi
      rw [Nat.add_mul, Nat.one_mul] at this
      omega
    · have hlt : i * size + j < xs.length := by
        rw [h1'.1]
        have : (i + 1) * size ≤ l.length * size := Nat.mul_le_mul_right _ hi
        rw [Nat.add_mul, Nat.one_mul] at this
        omega
      have hc := h1'.cells (g := g) rfl (i * size + j) xs[i * size + j] (List.getElem?_eq_getElem hlt)
      rw [add_at] at hc
      rw [Nat.add_assoc, hc]
      rw [List.getElem?_take_of_lt hj, List.getElem?_drop, List.getElem?_eq_getElem hlt]
theorem own_len {α : Type} {size : Nat} {R : (Nat → Prop) → World → List Value → α → Prop} {S : Nat → Prop} {w : World} {base : Nat} {e : TypeId} {v : Value} {l : List α} (h : Own size R S w base e v l) : ∃ A c, v = .slice A l.length c := by
  obtain ⟨xs, h1, _⟩ := h
  rcases h1.2 with ⟨rfl, h0⟩ | ⟨g, cap, cur, rfl, _⟩
  · exact ⟨none, 0, by rw [h0]⟩
  · exact ⟨_, cap, rfl⟩
theorem Same.of_lts {S : Nat → Prop} {n : Nat} {w w' : World} (h : Below n w w') : Same (fun b => S b ∧ b < n) w w' := ⟨h.size, fun k hk _ => h.block k hk.2⟩
/-- The call returns a bit and two sides, each within its room. -/
def RetCut (S : Nat → Prop) (w : World) (d : Nat) (x y : List Pr) (e : Ending) (w' : World) : Prop :=
  ∃ A a B b, e = .returned (.tuple #[.int .i64 (d : Int), .slice A x.length a, .slice B y.length b]) ∧ x.length ≤ a ∧ y.length ≤ b ∧ Ps S w' A x ∧ Ps S w' B y ∧ Below w.heap.size w w'
set_option maxRecDepth 100000 in
set_option maxHeartbeats 2000000 in
theorem sides_okS (S0 : Nat → Prop) (w : World) (A : Option Addr) (l : List Pr) (c d : Nat) (ha : Ps S0 w A l) (hp : Parts l d) (h2 : 2 ≤ l.length) (h60 : l.length ≤ 60) (ht : Tree l) :
    Calls Tryd.prog 86 #[.slice A l.length c] w (RetCut (fun b => S0 b ∨ From w.heap.size b) w d (l.take (leftN l)) (l.drop (leftN l))) := by
  obtain ⟨i0, hi0, hy0, hy1, hy2⟩ := info_parts info_pair
  rw [← sides_left hp h2, ← sides_right hp h2]
  have Hall := Lib.hid (bitMin_all hp h2)
  have Ht := Lib.hid ht
  have Hd := Lib.hid hp.d144
  have Ha := Lib.hid (show Ps (fun b => S0 b ∧ b < w.heap.size) w A l from ha.less pairR_stays fun b hb hs => ⟨hs, hb⟩)
  clear hp
  go_enter Tryd.func86, Tryd.ntmps86
  go_wp2
  go_loopw [5, 6] (fun b i wr => ∃ k : Nat, 1 ≤ k ∧ k ≤ l.length ∧ i = .int .i64 k ∧ b = .int .i64 (bitMin l k) ∧ Below w.heap.size w wr) (fun _ i _ => l.length - (intOf i).toNat)
  case atStart => exact ⟨1, by omega, by omega, rfl, rfl, Below.refl _ _⟩
  case round =>
    obtain ⟨k, hk1, hk, rfl, rfl, hbel⟩ := hrel
    have Hbel := Lib.hid hbel
    clear hbel
    by_cases hlt : k < l.length
    · have hki : (k : Int) < (l.length : Int) := by omega
      have mk : IntKind.i64.wrap ((k : Int) + 1) = (k : Int) + 1 := IntWalk.i64_in _ (by omega)
      obtain ⟨g, off, K0, c0, V0, d0, rfl, _, hgl, q0, _, hs0, _, _, _⟩ := pairs_at (Ha.out.same pairR_stays (Same.of_lts Hbel.out)) (show 0 < l.length by omega)
      obtain ⟨g', off', K1, c1, V1, d1, he, _, _, q1, _, hs1, _, _, _⟩ := pairs_at (Ha.out.same pairR_stays (Same.of_lts Hbel.out)) hlt
      cases he
      simp only [Nat.zero_mul, Nat.add_zero] at q0
      have Hs0 := Lib.hid hs0
      have Hs1 := Lib.hid hs1
      have K0h := Lib.hid (Ht.out.k16 (List.getElem_mem (show 0 < l.length by omega)))
      have K1h := Lib.hid (Ht.out.k16 (List.getElem_mem hlt))
      have hi0' : (0 : Int) < (l.length : Int) := by omega
      have hj0' : 0 < l.length := by omega
      clear hs0 hs1
      by_cases hm : firstNot l[0].1 l[k].1 145 0 < bitMin l k
      · have Hn := Lib.hid (bitMin_less (by omega) hlt hm)
        have hm' : decide (firstNot l[0].1 l[k].1 145 0 < bitMin l k) = true := decide_eq_true hm
        obtain ⟨fz, hfz⟩ : ∃ fz, firstNot l[0].1 l[k].1 145 0 = fz := ⟨_, rfl⟩
        obtain ⟨mz, hmz⟩ : ∃ mz, bitMin l k = mz := ⟨_, rfl⟩
        rw [hfz, hmz] at hm'
        rw [hmz]
        have Hfz := Lib.hid hfz
        have Hmz := Lib.hid hmz
        clear hfz hm hmz
        go_wp2_with fail
        go_region_held3 (fun w' => w'.cell? ⟨g, off, none⟩ = some (.slice K0 l[0].1.length c0) ∧ w'.cell? ⟨g, off + k * 2, none⟩ = some (.slice K1 l[k].1.length c1))
          (first
            | go_keep
            | (go_split_ands; refine ⟨(hb1.cell (by simp; omega)).trans (by assumption), (hb1.cell (by simp; omega)).trans (by assumption)⟩))
          ((go_at_call 126; (with_reducible refine (refPart_ok _ K0 K1 l[0].1 l[k].1 c0 c1 ?h1 ?h2 K0h.out K1h.out).mono ?_); (case h1 => exact Hs0.out.bz.bsame (by repeat' (first | exact Same.refl _ _ | assumption | refine Same.drew ?_ | refine Same.drewN ?_ _ | refine Same.alloc ?_ _ | refine Same.setCell ?_ (fun hq => by simp only [From] at hq; first | omega | (simp at hq; done) | (simp at hq; omega)) _))); (case h2 => exact Hs1.out.bz.bsame (by repeat' (first | exact Same.refl _ _ | assumption | refine Same.drew ?_ | refine Same.drewN ?_ _ | refine Same.alloc ?_ _ | refine Same.setCell ?_ (fun hq => by simp only [From] at hq; first | omega | (simp at hq; done) | (simp at hq; omega)) _))); rintro e w1 ⟨rfl, hb1⟩; rw [Hfz.out]))
        go_wp2
        go_roundw
        case rel => exact ⟨k + 1, by omega, by omega, by go_num, by rw [Hn.out]; first | rw [Hfz.out] | rw [Hmz.out], Below.next (by repeat' (first | exact Below.refl _ _ | assumption | refine Below.drew ?_ | refine below_drewN ?_ _ | refine Below.setCell ?_ (by first | (simp; done) | omega | (simp; omega)) _ | refine Below.alloc ?_ (by first | exact Nat.le_refl _ | omega | (simp; done) | (simp; omega)) _)) hb1 Hbel.out.size⟩
        case measure => simp [intOf]; omega
      · have Hn := Lib.hid (bitMin_stay (by omega) hlt hm)
        have hm' : decide (firstNot l[0].1 l[k].1 145 0 < bitMin l k) = false := decide_eq_false hm
        obtain ⟨fz, hfz⟩ : ∃ fz, firstNot l[0].1 l[k].1 145 0 = fz := ⟨_, rfl⟩
        obtain ⟨mz, hmz⟩ : ∃ mz, bitMin l k = mz := ⟨_, rfl⟩
        rw [hfz, hmz] at hm'
        rw [hmz]
        have Hfz := Lib.hid hfz
        have Hmz := Lib.hid hmz
        clear hfz hm hmz
        go_wp2_with fail
        go_region_held3 (fun w' => w'.cell? ⟨g, off, none⟩ = some (.slice K0 l[0].1.length c0) ∧ w'.cell? ⟨g, off + k * 2, none⟩ = some (.slice K1 l[k].1.length c1))
          (first
            | go_keep
            | (go_split_ands; refine ⟨(hb1.cell (by simp; omega)).trans (by assumption), (hb1.cell (by simp; omega)).trans (by assumption)⟩))
          ((go_at_call 126; (with_reducible refine (refPart_ok _ K0 K1 l[0].1 l[k].1 c0 c1 ?h1 ?h2 K0h.out K1h.out).mono ?_); (case h1 => exact Hs0.out.bz.bsame (by repeat' (first | exact Same.refl _ _ | assumption | refine Same.drew ?_ | refine Same.drewN ?_ _ | refine Same.alloc ?_ _ | refine Same.setCell ?_ (fun hq => by simp only [From] at hq; first | omega | (simp at hq; done) | (simp at hq; omega)) _))); (case h2 => exact Hs1.out.bz.bsame (by repeat' (first | exact Same.refl _ _ | assumption | refine Same.drew ?_ | refine Same.drewN ?_ _ | refine Same.alloc ?_ _ | refine Same.setCell ?_ (fun hq => by simp only [From] at hq; first | omega | (simp at hq; done) | (simp at hq; omega)) _))); rintro e w1 ⟨rfl, hb1⟩; rw [Hfz.out]))
        go_wp2
        go_roundw
        case rel => exact ⟨k + 1, by omega, by omega, by go_num, by rw [Hn.out]; first | rw [Hfz.out] | rw [Hmz.out], Below.next (by repeat' (first | exact Below.refl _ _ | assumption | refine Below.drew ?_ | refine below_drewN ?_ _ | refine Below.setCell ?_ (by first | (simp; done) | omega | (simp; omega)) _ | refine Below.alloc ?_ (by first | exact Nat.le_refl _ | omega | (simp; done) | (simp; omega)) _)) hb1 Hbel.out.size⟩
        case measure => simp [intOf]; omega
    · obtain rfl : k = l.length := by omega
      rw [Hall.out]
      have hki : ¬ (l.length : Int) < (l.length : Int) := by omega
      obtain ⟨wm, rfl⟩ : ∃ wm : World, wm = wr := ⟨_, rfl⟩
      go_wp2
      clear hki hlt hk hk1
      go_loopw [8, 9, 10] (fun lv rv i wr => ∃ k : Nat, k ≤ l.length ∧ i = .int .i64 k ∧ Own 2 PairR (fun b => S0 b ∧ b < w.heap.size) wr w.heap.size 25 lv ((l.take k).filter fun p => !bitB p.1 d) ∧ Own 2 PairR (fun b => S0 b ∧ b < w.heap.size) wr w.heap.size 25 rv ((l.take k).filter fun p => bitB p.1 d) ∧ (∀ b, lv.ownBlock = some b → rv.ownBlock ≠ some b) ∧ Below w.heap.size w wr) (fun _ _ i _ => l.length - (intOf i).toNat)
      case atStart => exact ⟨0, by omega, rfl, Own.nil _ _ _, Own.nil _ _ _, (fun _ h => by cases h), Hbel.out⟩
      case round =>
        clear Hbel
        obtain ⟨k, hk, rfl, hlo, hro, hap, hbel⟩ := hrel
        have Hbel := Lib.hid hbel
        have Hlo := Lib.hid hlo
        have Hro := Lib.hid hro
        have Hap := Lib.hid hap
        clear hbel hlo hro hap
        by_cases hlt : k < l.length
        · have hki : (k : Int) < (l.length : Int) := by omega
          have mk : IntKind.i64.wrap ((k : Int) + 1) = (k : Int) + 1 := IntWalk.i64_in _ (by omega)
          have hbz := Hbel.out.size
          obtain ⟨g, off, K, c', V, d', rfl, hgS, hgl, q0, q1, hs0, hs1, hb0, hb1⟩ := pairs_at (Ha.out.same pairR_stays (Same.of_lts Hbel.out)) hlt
          have Hs0 := Lib.hid hs0
          have Hs1 := Lib.hid hs1
          have K16 := Lib.hid (Ht.out.k16 (List.getElem_mem hlt))
          have H145 := Lib.hid (all145_len K16.out)
          have Hf1 := Lib.hid (filter_snoc (q := fun p : Pr => !bitB p.1 d) hlt)
          have Hf2 := Lib.hid (filter_snoc (q := fun p : Pr => bitB p.1 d) hlt)
          have Hln1 := Lib.hid (show ((l.take k).filter fun p : Pr => !bitB p.1 d).length ≤ 60 from Nat.le_trans (List.length_filter_le _ _) (by rw [List.length_take]; omega))
          have Hln2 := Lib.hid (show ((l.take k).filter fun p : Pr => bitB p.1 d).length ≤ 60 from Nat.le_trans (List.length_filter_le _ _) (by rw [List.length_take]; omega))
          generalize l[k] = x at *
          generalize hL : ((l.take k).filter fun p : Pr => !bitB p.1 d) = L at *
          generalize hM : ((l.take k).filter fun p : Pr => bitB p.1 d) = M at *
          have hd145 : (d : Int) < 145 := by have := Hd.out; omega
          clear hs0 hs1 hL hM
          rcases Bool.eq_false_or_eq_true (bitB x.1 d) with hb | hb
          · have Hr1 := Lib.hid (show ((l.take (k + 1)).filter fun p : Pr => !bitB p.1 d) = L by rw [Hf1.out, hb]; simp)
            have Hr2 := Lib.hid (show ((l.take (k + 1)).filter fun p : Pr => bitB p.1 d) = M ++ [x] by rw [Hf2.out, hb]; simp)
            have Hb := Lib.hid hb
            clear hb Hf1 Hf2
            go_wp2_with (first
              | (go_at_call 85; (with_reducible refine (allBits_ok _ K x.1 c' ?ha K16.out).mono ?_); (case ha => exact Hs0.out.bz); rintro e w2 ⟨B, cb, rfl, hsb, hb2⟩; obtain ⟨gb, ob, rfl, hgb, hcell⟩ := bit_at hsb K16.out (n := d) (by have := Hd.out; omega); rw [H145.out]; rw [Hb.out] at hcell; have hw2 := (hb2.cell (p := ⟨g, off + k * 2, none⟩) hgl).trans q0; have hw3 := (hb2.cell (p := ⟨g, off + k * 2 + 1, none⟩) hgl).trans q1; have hz2 := hb2.size)
              | (at_builtin; refine wpl_snocR pairR_stays (S := fun b => S0 b ∧ b < w.heap.size) _ rfl _ _ _ rfl w.heap.size 25 i0 _ 2 48 Tryd.underlying75 hi0 hy0 hy1 hy2 rfl (by decide) _ M rfl ?hown _ _ [.slice K x.1.length c', .slice V x.2.length d'] rfl rfl (new_src _ _ [.slice K x.1.length c', .slice V x.2.length d'] _ (by simp)) (by simp [Value.oneCell']) ?hm ?hby ?hba x ?hd ?_; (case hown => exact (Hro.out.below pairR_stays hb2).same pairR_stays (by repeat' (first | exact Same.refl _ _ | assumption | refine Same.drew ?_ | refine Same.drewN ?_ _ | refine Same.alloc ?_ _ | refine Same.setCell ?_ (fun hq => by simp only [From] at hq; first | omega | (simp at hq; done) | (simp at hq; omega)) _))); (case hm => (have := Hln2.out; simp only [maxLen]; omega)); (case hby => (have := Hln2.out; omega)); (case hba => (simp; omega)); (case hd => exact ⟨K, c', V, d', rfl, (Hs0.out.bsame ((Same.of_below hb2).alloc _)).bless fun b _ hs => ⟨hs, fun h => by have := (Hro.out.lts h).1; have := hs.2; omega⟩, (Hs1.out.bsame ((Same.of_below hb2).alloc _)).bless fun b _ hs => ⟨hs, fun h => by have := (Hro.out.lts h).1; have := hs.2; omega⟩, hb0, hb1⟩); intro v1 w3 hown3 hbw3 hgr hat))
            have hkeep : Own 2 PairR (fun b => S0 b ∧ b < w.heap.size) w3 w.heap.size 25 u8 L := ((Hlo.out.below pairR_stays hb2).same pairR_stays (by repeat' (first | exact Same.refl _ _ | assumption | refine Same.drew ?_ | refine Same.drewN ?_ _ | refine Same.alloc ?_ _ | refine Same.setCell ?_ (fun hq => by simp only [From] at hq; first | omega | (simp at hq; done) | (simp at hq; omega)) _))).kept pairR_stays (T := fun b => (u9).ownBlock ≠ some b) (Same.grown (Same.refl _ _) hgr (fun k hk h => h hk)) (fun b _ hs h => by have := (Hro.out.lts h).1; have := hs.2; omega) (fun b hb h => Hap.out b hb h)
            have hnew : ∀ b, (u8).ownBlock = some b → v1.ownBlock ≠ some b := fun b h1 h2 => by
              rcases hat with h | h
              · rw [h] at h2
                exact Hap.out b h1 h2
              · rw [h] at h2
                cases h2
                have q1 := (Hlo.out.lts h1).2
                have q2 := hb2.size
                simp at q1
                omega
            go_roundw
            case rel => exact ⟨k + 1, by omega, by go_num, by rw [Hr1.out]; exact hkeep, by rw [Hr2.out]; exact hown3, hnew, ((Hbel.out.next hb2 Hbel.out.size).alloc (by omega) _).trans hbw3⟩
            case measure => simp [intOf]; omega
          · have Hr1 := Lib.hid (show ((l.take (k + 1)).filter fun p : Pr => !bitB p.1 d) = L ++ [x] by rw [Hf1.out, hb]; simp)
            have Hr2 := Lib.hid (show ((l.take (k + 1)).filter fun p : Pr => bitB p.1 d) = M by rw [Hf2.out, hb]; simp)
            have Hb := Lib.hid hb
            clear hb Hf1 Hf2
            go_wp2_with (first
              | (go_at_call 85; (with_reducible refine (allBits_ok _ K x.1 c' ?ha K16.out).mono ?_); (case ha => exact Hs0.out.bz); rintro e w2 ⟨B, cb, rfl, hsb, hb2⟩; obtain ⟨gb, ob, rfl, hgb, hcell⟩ := bit_at hsb K16.out (n := d) (by have := Hd.out; omega); rw [H145.out]; rw [Hb.out] at hcell; have hw2 := (hb2.cell (p := ⟨g, off + k * 2, none⟩) hgl).trans q0; have hw3 := (hb2.cell (p := ⟨g, off + k * 2 + 1, none⟩) hgl).trans q1; have hz2 := hb2.size)
              | (at_builtin; refine wpl_snocR pairR_stays (S := fun b => S0 b ∧ b < w.heap.size) _ rfl _ _ _ rfl w.heap.size 25 i0 _ 2 48 Tryd.underlying75 hi0 hy0 hy1 hy2 rfl (by decide) _ L rfl ?hown _ _ [.slice K x.1.length c', .slice V x.2.length d'] rfl rfl (new_src _ _ [.slice K x.1.length c', .slice V x.2.length d'] _ (by simp)) (by simp [Value.oneCell']) ?hm ?hby ?hba x ?hd ?_; (case hown => exact (Hlo.out.below pairR_stays hb2).same pairR_stays (by repeat' (first | exact Same.refl _ _ | assumption | refine Same.drew ?_ | refine Same.drewN ?_ _ | refine Same.alloc ?_ _ | refine Same.setCell ?_ (fun hq => by simp only [From] at hq; first | omega | (simp at hq; done) | (simp at hq; omega)) _))); (case hm => (have := Hln1.out; simp only [maxLen]; omega)); (case hby => (have := Hln1.out; omega)); (case hba => (simp; omega)); (case hd => exact ⟨K, c', V, d', rfl, (Hs0.out.bsame ((Same.of_below hb2).alloc _)).bless fun b _ hs => ⟨hs, fun h => by have := (Hlo.out.lts h).1; have := hs.2; omega⟩, (Hs1.out.bsame ((Same.of_below hb2).alloc _)).bless fun b _ hs => ⟨hs, fun h => by have := (Hlo.out.lts h).1; have := hs.2; omega⟩, hb0, hb1⟩); intro v1 w3 hown3 hbw3 hgr hat))
            have hkeep : Own 2 PairR (fun b => S0 b ∧ b < w.heap.size) w3 w.heap.size 25 u9 M := ((Hro.out.below pairR_stays hb2).same pairR_stays (by repeat' (first | exact Same.refl _ _ | assumption | refine Same.drew ?_ | refine Same.drewN ?_ _ | refine Same.alloc ?_ _ | refine Same.setCell ?_ (fun hq => by simp only [From] at hq; first | omega | (simp at hq; done) | (simp at hq; omega)) _))).kept pairR_stays (T := fun b => (u8).ownBlock ≠ some b) (Same.grown (Same.refl _ _) hgr (fun k hk h => h hk)) (fun b _ hs h => by have := (Hlo.out.lts h).1; have := hs.2; omega) (fun b hb h => Hap.out b h hb)
            have hnew : ∀ b, (u9).ownBlock = some b → v1.ownBlock ≠ some b := fun b h1 h2 => by
              rcases hat with h | h
              · rw [h] at h2
                exact Hap.out b h2 h1
              · rw [h] at h2
                cases h2
                have q1 := (Hro.out.lts h1).2
                have q2 := hb2.size
                simp at q1
                omega
            go_roundw
            case rel => exact ⟨k + 1, by omega, by go_num, by rw [Hr1.out]; exact hown3, by rw [Hr2.out]; exact hkeep, fun b h1 h2 => hnew b h2 h1, ((Hbel.out.next hb2 Hbel.out.size).alloc (by omega) _).trans hbw3⟩
            case measure => simp [intOf]; omega
        · obtain rfl : k = l.length := by omega
          have hki : ¬ (l.length : Int) < (l.length : Int) := by omega
          have h1 := Hlo.out
          have h2' := Hro.out
          rw [List.take_length] at h1 h2'
          obtain ⟨A1, a1, rfl, hca1, hs1⟩ := Own.slices pairR_stays h1
          obtain ⟨A2, a2, rfl, hca2, hs2⟩ := Own.slices pairR_stays h2'
          go_wp2
          go_ret3
          exact ⟨A1, a1, A2, a2, rfl, hca1, hca2, hs1.less pairR_stays fun b _ h => h.imp And.left id, hs2.less pairR_stays fun b _ h => h.imp And.left id, Hbel.out⟩
theorem sides_ok (w : World) (A : Option Addr) (l : List Pr) (c d : Nat) (ha : Ps All w A l) (hp : Parts l d) (h2 : 2 ≤ l.length) (h60 : l.length ≤ 60) (ht : Tree l) :
    Calls Tryd.prog 86 #[.slice A l.length c] w (RetCut (fun b => All b ∨ From w.heap.size b) w d (l.take (leftN l)) (l.drop (leftN l))) := sides_okS All w A l c d ha hp h2 h60 ht
end Go.Proofs.YteacjkihjeiafaaDoor
namespace Go.Proofs.YteacjkihjeiafaaDoor
open Go.RowKit
set_option linter.unusedVariables false
set_option linter.unusedSimpArgs false

set_option maxRecDepth 100000 in
set_option maxHeartbeats 1000000 in
theorem rootOf_n : ∀ (n : Nat) (l : List Pr) (_ : l.length ≤ n) (w : World) (A : Option Addr) (m c : Nat) (_ : m = l.length) (_ : Ps All w A l) (_ : l.length ≤ 60) (_ : Tree l),
    Calls Tryd.prog 64 #[.slice A m c] w (RetBs w (rootS l)) := by
  intro n
  induction n with
  | zero =>
    intro l hl w A m c hm ha h60 ht
    subst hm
    have h0 : l.length = 0 := by omega
    rw [root_zero h0, h0]
    clear ha hl h60 ht h0
    go_enter Tryd.func64, Tryd.ntmps64
    go_wp2_with ((go_at_call 36; (with_reducible refine (noneDigest_ok _).mono ?_); rintro e1 w1 ⟨B, b, rfl, hs, hb⟩))
    go_ret
    exact ⟨B, b, rfl, hs, hb⟩
  | succ n ih =>
    intro l hl w A m c hm ha h60 ht
    subst hm
    have Ha := Lib.hid ha
    by_cases h0 : l.length = 0
    · rw [root_zero h0, h0]
      clear ha hl h60 ht h0 ih Ha
      go_enter Tryd.func64, Tryd.ntmps64
      go_wp2_with ((go_at_call 36; (with_reducible refine (noneDigest_ok _).mono ?_); rintro e1 w1 ⟨B, b, rfl, hs, hb⟩))
      go_ret
      exact ⟨B, b, rfl, hs, hb⟩
    · by_cases h2 : l.length = 1
      · rw [root_one h2, getD_at (show 0 < l.length by omega)]
        have Hp := Lib.hid (show l[0].1.length + l[0].2.length ≤ 3000 by have := ht.k16 (List.getElem_mem (show 0 < l.length by omega)); have := ht.val _ (List.getElem_mem (show 0 < l.length by omega)); omega)
        obtain ⟨g, off, K0, c0, V0, d0, rfl, _, hgl, q0, q1, hs0, hs1, _, _⟩ := pairs_at ha (show 0 < l.length by omega)
        simp only [Nat.zero_mul, Nat.add_zero] at q0 q1
        have Hs0 := Lib.hid hs0
        have Hs1 := Lib.hid hs1
        generalize l[0] = x at *
        rw [h2]
        clear hl ha h60 ht hs0 hs1 h2 ih h0 Ha
        go_enter Tryd.func64, Tryd.ntmps64
        go_wp2_with (go_at_call 105; (with_reducible refine (leafDigest_ok _ K0 V0 x c0 d0 Hs0.out.bz Hs1.out.bz Hp.out).mono ?_); rintro e1 w1 ⟨B1, e1, rfl, hr1, hb1⟩)
        go_ret
        exact ⟨B1, _, rfl, hr1, hb1⟩
      · have h22 : 2 ≤ l.length := by omega
        obtain ⟨d, hp⟩ := ht.parts h22
        obtain ⟨hn1, hn2, _⟩ := left_lt hp h22
        have Hv := Lib.hid (root_two ht h22)
        rw [hp.bit] at Hv
        have Hsd := Lib.hid (sides_ok w A l c d ha hp h22 h60 ht)
        have Hx := Lib.hid (ih (l.take (leftN l)) (by rw [List.length_take]; omega))
        have Hy := Lib.hid (ih (l.drop (leftN l)) (by rw [List.length_drop]; omega))
        have Htx := Lib.hid (ht.take (leftN l))
        have Hty := Lib.hid (ht.drop (leftN l))
        have Hd := Lib.hid hp.d144
        have Hlx := Lib.hid (show (l.take (leftN l)).length ≤ 60 by rw [List.length_take]; omega)
        have Hly := Lib.hid (show (l.drop (leftN l)).length ≤ 60 by rw [List.length_drop]; omega)
        have Hne := Lib.hid (show (l.take (leftN l)).length ≠ (l.drop (leftN l)).length ∨ True from .inr trivial)
        generalize l.take (leftN l) = x at *
        generalize l.drop (leftN l) = y at *
        have hz : ((l.length : Int) == 0) = false := by rw [beq_eq_false_iff_ne]; omega
        have hz' : decide ((l.length : Int) = 0) = false := decide_eq_false (by omega)
        have hy : ((l.length : Int) == 1) = false := by rw [beq_eq_false_iff_ne]; omega
        have hy' : decide ((l.length : Int) = 1) = false := decide_eq_false (by omega)
        clear hl ha ht hp ih h2 h0 h22 Hne hn1 hn2 h60
        go_enter Tryd.func64, Tryd.ntmps64
        go_wp2_with ((go_at_call 86; (with_reducible refine Hsd.out.mono ?_); rintro e1 w1 ⟨X, a, Y, b, rfl, _, _, hsx', hsy', hb1⟩; have hsx := hsx'.z pairR_stays; have hsy := hsy'.z pairR_stays; clear hsx' hsy'))
        have Hsy := Lib.hid hsy
        refine (Hx.out _ X _ _ rfl hsx Hlx.out Htx.out).mono ?_
        rintro e2 w2 ⟨B2, b2, rfl, hs2, hb2⟩
        go_wp2_with fail
        refine (Hy.out _ Y _ _ rfl (Hsy.out.below pairR_stays hb2) Hly.out Hty.out).mono ?_
        rintro e3 w3 ⟨B3, b3, rfl, hs3, hb3⟩
        go_wp2_with ((go_at_call 106; (with_reducible refine (forkDigest_ok _ B2 B3 d _ _ b2 b3 ?ha ?hb ?hl ?hd).mono ?_); (case ha => exact (hs2.bbelow hb3).bz); (case hb => exact hs3.bz); (case hl => (rw [rootS_len, rootS_len]; omega)); (case hd => (have := Hd.out; omega)); rintro e4 w4 ⟨Z, cz, rfl, hsz, hb4⟩))
        go_ret
        rw [Hv.out]
        have hq3 := (hb1.next hb2 hb1.size).next hb3 (Nat.le_trans hb1.size hb2.size)
        exact ⟨Z, cz, rfl, hsz.blo hq3.size, hq3.next hb4 hq3.size⟩
theorem rootOf_ok (w : World) (A : Option Addr) (l : List Pr) (c : Nat) (ha : Ps All w A l) (h60 : l.length ≤ 60) (ht : Tree l) : Calls Tryd.prog 64 #[.slice A l.length c] w (RetBs w (rootS l)) :=
  rootOf_n l.length l (Nat.le_refl _) w A l.length c rfl ha h60 ht
end Go.Proofs.YteacjkihjeiafaaDoor
