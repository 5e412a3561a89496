/- ChgF: Walk: the program's places: what two forests have, as writes, sorted, each once. The conditions of each are in its words. -/
import Derived.Test.YthohkgggodhbcaaGreatKChgP
import Derived.Test.YthohkgggodhbcaaGreatKChgS
import Derived.Test.YthohkgggodhbcaaGreatKChgK
import Derived.Test.YthohkgggodhbcaaGreatKForest
import Derived.Test.YthohkgggodhbcaaGreatKForestW
namespace Go.Proofs.YthohkgggodhbcaaGreat
open Go.RowKit
set_option linter.unusedVariables false
set_option linter.unusedSimpArgs false

theorem step_snocI {P : Program} {α : Type} {R : (Nat → Prop) → World → List Value → α → Prop} (hR : Stays R) {S : Nat → Prop} (w : World) {ops : Array Oper} {o : Oper} {a : Act} {K : Act → World → Prop} {Q : Exit → Act → World → Prop} {E : Prop} (hgd : o.guard = none) (s x : Operand) (t : TypeId)
    (ho : o.op = .call { callee := .builtin .append, args := #[s, x], argTypes := #[t, t] })
    (base : Nat) (e : TypeId) (i : TypeInfo) (z : Value) (size bytes : Nat) (ht : P.underlying t = some (.slice e)) (hi : P.info? e = some i) (hz : i.zero = some z)
    (hsize : i.size = size) (hby : i.bytes = bytes) (hzs : z.cells.size = size) (hsz : 0 < size)
    (v : Value) (l : List α) (hs : a.eval s = v) (hown : Own size R S w base e v l)
    (A : Option Addr) (c : Nat) (cs : List Value) (hx : a.eval x = .slice A 1 c) (hl : cs.length = size) (hsrc : ∃ ad, A = some ad ∧ ∀ j u, cs[j]? = some u → w.cell? (ad.add j) = some u) (h1 : ∀ u ∈ cs, u.oneCell' = true)
    (h63 : l.length + 1 ≤ maxLen) (hbytes : (l.length + 1) * bytes ≤ 140737488355328) (hbase : base ≤ w.heap.size)
    (d : α) (hd : R (fun b => S b ∧ v.ownBlock ≠ some b) w cs d)
    (h : ∀ v' w', Own size R S w' base e v' (l ++ [d]) → Below base w w' → w.grownBy w' v.ownBlock → (v'.ownBlock = v.ownBlock ∨ v'.ownBlock = some w.heap.size) → K (a.put o.dst v') w') : if Region.wanted o (yielded ops a.tmps) = true then Oper.wp P o a w K Q else E := by
  have hw : Region.wanted o (yielded ops a.tmps) = true := by simp [Region.wanted, hgd]
  rw [if_pos hw]
  obtain ⟨xs, hx1, hx2⟩ := hown
  exact wp_app w s x t ho base e i z size bytes ht hi hz hsize hby hzs hsz v l.length xs hs hx1 A 1 c cs hx (by omega) (fun _ => hsrc) h1 h63 hbytes hbase
    fun v' w' g1 g2 g3 => h v' w' (Own.snoc hR hx2 hx1 g1 g2 g3 hd hl) (own_below hx1 g2 hbase) g2 g3
/-- The places of the first k forests. -/
def flatU (fa fb : List Tn) : Nat → List (List UInt8 × Pr)
  | 0 => []
  | 1 => flatP fa
  | _ => flatP fa ++ flatP fb
theorem flatU_len {fa fb : List Tn} (ha : Fine fa) {k : Nat} (hk : k < 2) : (flatU fa fb k).length ≤ 480 := by
  rcases Nat.eq_zero_or_pos k with h | h
  · subst h; simp [flatU]
  · obtain rfl : k = 1 := by omega
    have := fine_flat ha fa.length
    rw [flat_all] at this
    exact this
/-- The call returns the places of two forests, rising, each once. -/
def RetPl (w : World) (fa fb : List Tn) (e : Ending) (w' : World) : Prop :=
  ∃ v l', e = .returned v ∧ Own 4 WrR (From w.heap.size) w' w.heap.size 40 v (compS l') ∧ l'.Perm (placesS fa fb) ∧ l'.Pairwise (fun x y => plLt y x = false) ∧ Below w.heap.size w w'
set_option maxRecDepth 100000 in
set_option maxHeartbeats 1500000 in
theorem places_ok (w : World) (g : Nat) (A B : Option Addr) (fa fb : List Tn) (ca cb : Nat) (hg : g < w.heap.size) (hc0 : w.cell? ⟨g, 0, none⟩ = some (.slice A fa.length ca)) (hc1 : w.cell? ⟨g, 1, none⟩ = some (.slice B fb.length cb)) (ha : Ts All w A fa) (hb : Ts All w B fb) (ffa : Fine fa) (ffb : Fine fb) :
    Calls Tryz.prog 11 #[.slice (some ⟨g, 0, none⟩) 2 2] w (RetPl w fa fb) := by
  obtain ⟨i0, hi0, hz0, hz1, hz2⟩ := info_parts info_wr
  have Hrow := Lib.hid (show ∀ k, k < 2 → ∃ (C : Option Addr) (f : List Tn) (cf : Nat), w.cell? ⟨g, k, none⟩ = some (.slice C f.length cf) ∧ Ts All w C f ∧ Fine f ∧ flatU fa fb (k + 1) = flatU fa fb k ++ flatP f from fun k hk => by
    rcases Nat.eq_zero_or_pos k with h | h
    · subst h
      exact ⟨A, fa, ca, hc0, ha, ffa, rfl⟩
    · obtain rfl : k = 1 := by omega
      exact ⟨B, fb, cb, hc1, hb, ffb, rfl⟩)
  have HlU := Lib.hid (fun k (h : k < 2) => flatU_len (fb := fb) ffa h)
  have Hpl := Lib.hid (show (flatU fa fb 2).map bareW = placesS fa fb from rfl)
  have Hlp := Lib.hid (show (placesS fa fb).length ≤ 960 from by
    rw [← Hpl.out, List.length_map]
    have h1 := fine_flat ffa fa.length
    have h2 := fine_flat ffb fb.length
    rw [flat_all] at h1 h2
    show (flatP fa ++ flatP fb).length ≤ 960
    rw [List.length_append]
    omega)
  clear ha hb hc0 hc1 ffa ffb
  obtain ⟨n0, hn0⟩ : ∃ n0, n0 = w.heap.size := ⟨_, rfl⟩
  unfold RetPl
  have hwn : w.heap.size ≤ n0 := by omega
  have hnw : n0 ≤ w.heap.size := by omega
  rw [← hn0] at hg ⊢
  clear hn0
  go_enter Tryz.func11, Tryz.ntmps11
  go_wp2
  go_loopw [3, 12] (fun v i wr => ∃ k : Nat, k ≤ 2 ∧ i = .int .i64 k ∧ Own 4 WrR (From n0) wr n0 40 v ((flatU fa fb k).map bareW) ∧ Below n0 w wr) (fun _ i _ => 2 - (intOf i).toNat)
  case atStart => exact ⟨0, by omega, rfl, Own.nil _ _ _, Below.refl _ _⟩
  case round =>
    obtain ⟨k, hk, rfl, hown, hbel⟩ := hrel
    have Hbel := Lib.hid hbel
    have Hown := Lib.hid hown
    clear hown
    by_cases hlt : k < 2
    · obtain ⟨C, f, cf, hcell, hts, hfine, hnx⟩ := Hrow.out k hlt
      have hcl := (hbel.cell (p := ⟨g, k, none⟩) hg).trans hcell
      have hlu := HlU.out k hlt
      have Hts := Lib.hid hts
      have Hfine := Lib.hid hfine
      have Hnx := Lib.hid hnx
      have hi0' : (0 : Int) ≤ (k : Int) := by omega
      have hi1 : (k : Int) < 2 := by omega
      clear hts hfine hnx hcell hbel
      generalize flatU fa fb k = U at *
      go_wp2
      obtain ⟨wm, rfl⟩ : ∃ wm : World, wm = wr := ⟨_, rfl⟩
      go_loopw [3, 18] (fun v i wr => ∃ q : Nat, q ≤ f.length ∧ i = .int .i64 q ∧ Own 4 WrR (From n0) wr n0 40 v ((U ++ flatP (f.take q)).map bareW) ∧ Below n0 w wr) (fun _ i _ => f.length - (intOf i).toNat)
      case atStart => exact ⟨0, by omega, rfl, by rw [show flatP (f.take 0) = [] from rfl, List.append_nil]; exact Hown.out, Hbel.out⟩
      case round =>
        clear Hown Hbel
        obtain ⟨q, hq, rfl, hown, hbel⟩ := hrel
        have Hbel := Lib.hid hbel
        have Hown := Lib.hid hown
        clear hown
        by_cases hlt2 : q < f.length
        · obtain ⟨ab, ao, K, c1, V, d1, hX, _, hal, hd0, hd1, hs1, hs2, hxb, hxp, _⟩ := tens_at Hts.out hlt2
          subst hX
          have Hx0 := Lib.hid hs1
          have Hx2 := Lib.hid (hs2.z pairR_stays)
          have Hnx2 := Lib.hid (flat_next hlt2)
          have Hlt2 := Lib.hid hlt2
          have hf8 := (fine_pairs Hfine.out).1
          have Hl0 := Lib.hid (fine_flat Hfine.out q)
          have Hx60 := Lib.hid ((fine_pairs Hfine.out).2 _ (List.getElem_mem hlt2))
          have hal' : ab < wr.heap.size := by have := hbel.size; omega
          replace hd0 := (hbel.cell (p := ⟨ab, ao + q * 2, none⟩) (show ab < n0 by omega)).trans hd0
          replace hd1 := (hbel.cell (p := ⟨ab, ao + q * 2 + 1, none⟩) (show ab < n0 by omega)).trans hd1
          generalize f[q] = x at *
          generalize flatP (f.take q) = V0 at *
          have hq0 : (0 : Int) ≤ (q : Int) := by omega
          have hq1 : (q : Int) < (f.length : Int) := by omega
          have hnr : n0 ≤ wr.heap.size := by have := hbel.size; omega
          have hwg := (Below.refl wr.heap.size wr).alloc (Nat.le_refl _) (.cells #[.slice K x.1.length c1, .slice V x.2.length d1] 48)
          have hbg := box_new wr #[.slice K x.1.length c1, .slice V x.2.length d1] 48
          have hvt0 := Hown.out.apart _ (Nat.le_refl _) wr.heap.size (Nat.le_refl _)
          clear hs1 hs2 hbel
          go_upto_region 8 with fail
          obtain ⟨wg, hwge⟩ : ∃ wg, wg = wr.alloc (.cells #[.slice K x.1.length c1, .slice V x.2.length d1] 48) := ⟨_, rfl⟩
          rw [← hwge] at hwg hbg ⊢
          obtain ⟨gt, hgte⟩ : ∃ gt, gt = wr.heap.size := ⟨_, rfl⟩
          rw [← hgte] at hbg hvt0 ⊢
          obtain ⟨z0, z1, _, _⟩ := box2 hbg
          have hzg := hwg.size
          have hgtl := (Array.getElem?_eq_some_iff.1 hbg).1
          have Hbg := Lib.hid hbg
          have Howng := Lib.hid (Hown.out.below wrR_stays hwg)
          have Hbelg := Lib.hid (Hbel.out.trans (hwg.mono hnr))
          have hnt : n0 ≤ gt := by omega
          clear hwge hgte hwg hbg hd0 hd1 Hown Hbel
          go_wp2
          clear z0 z1
          go_loopw [3, 25] (fun v i wr => ∃ r : Nat, r ≤ x.2.length ∧ i = .int .i64 r ∧ Own 4 WrR (From n0) wr n0 40 v ((U ++ V0 ++ upP x r).map bareW) ∧ wr.heap[gt]? = some (.cells #[.slice K x.1.length c1, .slice V x.2.length d1] 48 (0, 0)) ∧ v.ownBlock ≠ some gt ∧ Below n0 w wr) (fun _ i _ => x.2.length - (intOf i).toNat)
          case atStart => exact ⟨0, by omega, rfl, by rw [upP_zero, List.append_nil]; exact Howng.out, Hbg.out, hvt0, Hbelg.out⟩
          case round =>
            clear Howng Hbelg Hbg hvt0
            obtain ⟨r, hr, rfl, hown, hbt, hvt, hbel⟩ := hrel
            have Hbel := Lib.hid hbel
            have Hown := Lib.hid hown
            have Hbt0 := Lib.hid hbt
            clear hown
            have hgtr := (Array.getElem?_eq_some_iff.1 hbt).1
            by_cases hlt3 : r < x.2.length
            · obtain ⟨pb, po, K2, c2, V2, d2, hX, _, hpl, hp1, hp2, hpq1, hpq2, hpb1, hpb2⟩ := pairs_at Hx2.out hlt3
              subst hX
              replace hp1 := (hbel.cell (p := ⟨pb, po + r * 2, none⟩) (show pb < n0 by omega)).trans hp1
              replace hp2 := (hbel.cell (p := ⟨pb, po + r * 2 + 1, none⟩) (show pb < n0 by omega)).trans hp2
              have Hsn := Lib.hid (show (U ++ V0 ++ upP x (r + 1)).map bareW = (U ++ V0 ++ upP x r).map bareW ++ [bareW (x.1, x.2[r])] by rw [upP_next hlt3, ← List.append_assoc, List.map_append]; rfl)
              have Hlen := Lib.hid (show ((U ++ V0 ++ upP x r).map bareW).length ≤ 1080 from by
                have h1 := upP_len x r
                have h2 := Hl0.out
                have h3 := Hx60.out
                rw [List.length_map, List.length_append, List.length_append]
                omega)
              generalize (U ++ V0 ++ upP x r).map bareW = L at *
              generalize x.2[r] = p at *
              have hr0 : (0 : Int) ≤ (r : Int) := by omega
              have hr1 : (r : Int) < (x.2.length : Int) := by omega
              have hnr2 : n0 ≤ wr.heap.size := by have := hbel.size; omega
              have hwp := (Below.refl wr.heap.size wr).alloc (Nat.le_refl _) (.cells #[.slice K2 p.1.length c2, .slice V2 p.2.length d2] 50)
              have hbp := box_new wr #[.slice K2 p.1.length c2, .slice V2 p.2.length d2] 50
              have hpl' : pb < wr.heap.size := by have := hbel.size; omega
              have Hx1 := Lib.hid (((Hx0.out.bz.bbelow (hbel.mono (by omega))).bbelow hwp))
              have Hp1 := Lib.hid (((hpq1.bz.bbelow (hbel.mono (by omega))).bbelow hwp))
              clear hpq1 hpq2 hbel hbt
              go_upto_region 11 with fail
              obtain ⟨wp, hwpe⟩ : ∃ wp, wp = wr.alloc (.cells #[.slice K2 p.1.length c2, .slice V2 p.2.length d2] 50) := ⟨_, rfl⟩
              rw [← hwpe] at hwp hbp Hx1 Hp1 ⊢
              obtain ⟨gp, hgpe⟩ : ∃ gp, gp = wr.heap.size := ⟨_, rfl⟩
              rw [← hgpe] at hbp ⊢
              have hzp := hwp.size
              have hgpl := (Array.getElem?_eq_some_iff.1 hbp).1
              have hgtp : gt < wp.heap.size := by omega
              have Hbp := Lib.hid hbp
              have Hbt := Lib.hid ((hwp.block gt hgtr).trans Hbt0.out)
              have Hbp0 := Lib.hid (Hbel.out.trans (hwp.mono hnr2))
              replace Hown := Lib.hid (Hown.out.below wrR_stays hwp)
              obtain ⟨y0, y1, _, _⟩ := box2 Hbt.out
              obtain ⟨u0, u1, _, _⟩ := box2 Hbp.out
              clear hwpe hgpe hwp hbp hp1 hp2 Hbt0 Hbel
              go_region_law (first
                | (go_simp; go_at_call 23; (with_reducible refine (clone_ok _ K x.1 c1 ?ha hxb).mono ?_); (case ha => exact Hx1.out.bsame (by repeat' (first | exact Same.refl _ _ | assumption | refine Same.drew ?_ | refine Same.drewN ?_ _ | refine Same.alloc ?_ _ | refine Same.setCell ?_ (fun hq => by simp only [From] at hq; first | omega | (simp at hq; done) | (simp at hq; omega)) _))); rintro e w6 ⟨A6, c6, rfl, gs6, hbw6⟩; have hb6 : Below wp.heap.size wp w6 := ((Below.refl _ _).drew).next hbw6 (by simp); have hz6 := hb6.size; have hbt6 := (hb6.block gt hgtp).trans Hbt.out; have hbp6 := (hb6.block gp hgpl).trans Hbp.out; obtain ⟨ga0, ga1, _, _⟩ := box2 hbt6; obtain ⟨gb0, gb1, _, _⟩ := box2 hbp6; have hgt6 : gt < w6.heap.size := (by omega); have hgp6 : gp < w6.heap.size := (by omega))
                | (go_simp; go_at_call 23; (with_reducible refine (clone_ok _ K2 p.1 c2 ?ha hpb1).mono ?_); (case ha => exact (Hp1.out.bbelow hb6).bsame (by repeat' (first | exact Same.refl _ _ | assumption | refine Same.drew ?_ | refine Same.drewN ?_ _ | refine Same.alloc ?_ _ | refine Same.setCell ?_ (fun hq => by simp only [From] at hq; first | omega | (simp at hq; done) | (simp at hq; omega)) _))); rintro e w7 ⟨A7, c7, rfl, gs7, hbw7⟩; have hb7 : Below wp.heap.size wp w7 := hb6.next hbw7 (by first | exact Nat.le_refl _ | omega | (simp; done) | (simp; omega)); have hz7 : w6.heap.size ≤ w7.heap.size := hbw7.size; have hbt7 := (hb7.block gt hgtp).trans Hbt.out; have hbp7 := (hb7.block gp hgpl).trans Hbp.out; obtain ⟨gd0, gd1, _, _⟩ := box2 hbt7; obtain ⟨gf0, gf1, _, _⟩ := box2 hbp7; have hgt7 : gt < w7.heap.size := (by omega); have hgp7 : gp < w7.heap.size := (by omega))
                | (refine step_snocI wrR_stays (S := From n0) _ rfl (.tmp 29) (.tmp 37) _ rfl n0 40 i0 _ 4 80 Tryz.underlying24 hi0 hz0 hz1 hz2 rfl (by decide) u3 L ?hs ?hown (some ⟨w7.heap.size, 0, none⟩) 1 [.slice A6 x.1.length c6, .slice A7 p.1.length c7, .bool false, .slice none 0 0] ?hx rfl (new_src w7 w7.heap.size [.slice A6 x.1.length c6, .slice A7 p.1.length c7, .bool false, .slice none 0 0] _ rfl) (by simp [Value.oneCell']) ?hm ?hby ?hba (bareW (x.1, p)) ?hd ?_; (case hs => (simp [Act.eval, Act.put])); (case hx => (simp [Act.eval, Act.put])); (case hown => (refine Own.below wrR_stays Hown.out ?_; exact (hb7.alloc (by first | exact Nat.le_refl _ | omega | (simp; done) | (simp; omega)) _))); (case hm => (have h9 := Hlen.out; simp only [maxLen]; omega)); (case hby => (have h9 := Hlen.out; omega)); (case hba => (simp; omega)); (case hd => (refine wr_fresh (n := wp.heap.size) (x := bareW (x.1, p)) (gs6.bbelow hbw7 |>.blo (by first | exact Nat.le_refl _ | omega | (simp; done) | (simp; omega))) (gs7.blo (by first | exact Nat.le_refl _ | omega | (simp; done) | (simp; omega))) SL.nil hxb hpb1 (Nat.zero_le _) ?_ (by omega) (Hown.out.apart _ (Nat.le_refl _)); repeat' (first | exact Same.refl _ _ | assumption | refine Same.drew ?_ | refine Same.drewN ?_ _ | refine Same.alloc ?_ _ | refine Same.setCell ?_ (fun hq => by simp only [From] at hq; first | omega | (simp at hq; done) | (simp at hq; omega)) _))); intro v8 w8 hown8 hbw8 hgr8 hat8; have hbt8 := (hgr8.block gt (by simp; omega) (fun e => hvt e.symm)).trans ((heap_alloc_old _ _ hgt7).trans hbt7); have Hown8 := Lib.hid hown8; have hz8 := hgr8.size; simp at hz8))
              all_goals
                go_wp2
                go_roundw
                case rel => exact ⟨r + 1, by omega, by go_num, by rw [Hsn.out]; exact Hown8.out, hbt8, (fun e => by rcases hat8 with h | h <;> rw [h] at e <;> first | exact hvt e | (injection e with e; simp at e; omega)), (Hbp0.out.trans ((hb7.mono (by omega)).alloc (by omega) _)).trans hbw8⟩
                case measure => simp [intOf]; omega
            · obtain rfl : r = x.2.length := by omega
              go_wp2
              go_roundw
              case rel => exact ⟨q + 1, Hlt2.out, by go_num, by rw [Hnx2.out, ← List.append_assoc]; exact Hown.out, Hbel.out⟩
              case measure => simp [intOf]; have hlt9 := Hlt2.out; omega
        · obtain rfl : q = f.length := by omega
          rw [flat_all] at Hown
          go_wp2
          go_roundw
          case rel => exact ⟨k + 1, by omega, by go_num, by rw [Hnx.out]; exact Hown.out, Hbel.out⟩
          case measure => simp [intOf]; omega
    · obtain rfl : k = 2 := by omega
      rw [Hpl.out] at Hown
      go_wp2_with (first
        | (go_at_call 24; (with_reducible refine (sortW_ok _ n0 (From n0) _ _ Hown.out ?hn).mono ?_); (case hn => (have := Hlp.out; unfold big; omega)); rintro e w2 ⟨rfl, l', hperm, hpw, hown2, hb2⟩; have Hperm := Lib.hid hperm; have Hpw := Lib.hid hpw; clear hperm hpw)
        | (go_at_call 26; (with_reducible refine (compactW_ok _ n0 (From n0) _ _ hown2 ?hn).mono ?_); (case hn => (have h1 := Hlp.out; have h2 := Hperm.out.length_eq; unfold big; omega)); rintro e w3 ⟨v3, rfl, hown3, hb3⟩))
      go_ret
      exact ⟨_, l', rfl, hown3, Hperm.out, Hpw.out, (hbel.trans hb2).trans hb3⟩
end Go.Proofs.YthohkgggodhbcaaGreat
