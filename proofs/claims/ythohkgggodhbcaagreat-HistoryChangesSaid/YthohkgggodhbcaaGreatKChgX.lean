/- ChgX: Walk: the program's Changes. The conditions of each are in its words. -/
import Derived.Test.YthohkgggodhbcaaGreatKChgF
import Derived.Test.YthohkgggodhbcaaGreatKChgR
import Derived.Test.YthohkgggodhbcaaGreatKTxn
namespace Go.Proofs.YthohkgggodhbcaaGreat
open Go.RowKit
set_option linter.unusedVariables false
set_option linter.unusedSimpArgs false

theorem tell_len {f : List Tn} (hf : Fine f) (n k : List UInt8) : (tellS f n k).2.length ≤ big := by
  unfold tellS
  cases h : findVal (pairsOfS f n) k with
  | none => exact Nat.zero_le _
  | some v =>
    unfold findVal at h
    obtain ⟨q, hq, rfl⟩ := Option.map_eq_some_iff.1 h
    have h2 := ((pairs_fault_iff _).1 (hf.old n)).2.1 q (List.mem_of_find?_eq_some hq)
    unfold pairFaultS at h2
    unfold big
    dsimp only
    split at h2
    · cases h2
    · omega
theorem two_cell0' (W : World) (u v : Value) (t : TypeId) : (W.alloc (.cells #[u, v] t)).cell? ⟨W.heap.size, 0, none⟩ = some u := box_cell (cs := [u, v]) (box_new W _ t) 0
theorem two_cell1' (W : World) (u v : Value) (t : TypeId) : (W.alloc (.cells #[u, v] t)).cell? ⟨W.heap.size, 1, none⟩ = some v := box_cell (cs := [u, v]) (box_new W _ t) 1
theorem places_len {a b : List Tn} (ha : Fine a) (hb : Fine b) : (placesS a b).length ≤ 960 := by
  have h1 := fine_flat ha a.length
  have h2 := fine_flat hb b.length
  rw [flat_all] at h1 h2
  unfold placesS
  rw [List.length_map, List.length_append]
  omega
theorem chg_same {a b : List Tn} {x : Wr} (h : tellS a x.name x.key = tellS b x.name x.key) : chgOne a b x = none := by unfold chgOne; rw [if_pos h]
theorem chg_put {a b : List Tn} {x : Wr} {xb : Bool} {vb : List UInt8} (h : tellS a x.name x.key ≠ tellS b x.name x.key) (hb : tellS b x.name x.key = (xb, vb)) : chgOne a b x = some ⟨x.name, x.key, !xb, vb⟩ := by unfold chgOne; rw [if_neg h, hb]
set_option maxRecDepth 100000 in
set_option maxHeartbeats 2000000 in
theorem changes_ok (w : World) (A0 : Option Addr) (l : List Cm) (c0 : Nat) (f t : Int) (ha : Cs All w A0 l) :
    Calls Tryz.prog 5 #[.slice A0 l.length c0, .int .i64 f, .int .i64 t] w (RetWsE w (changesS l f t)) := by
  obtain ⟨i0, hi0, hz0, hz1, hz2⟩ := info_parts info_wr
  have Hf := Lib.hid (historyFold_ok w A0 l c0 f ha)
  have Ht := Lib.hid (fun w' (h : Below w.heap.size w w') => historyFold_ok w' A0 l c0 t (ha.below cmR_stays h))
  clear ha
  by_cases h1 : (foldS l f).2 = 0
  · obtain ⟨fa, hfa, ffa⟩ := foldS_at h1
    rw [hfa] at Hf
    by_cases h2 : (foldS l t).2 = 0
    · obtain ⟨fb, hfb, ffb⟩ := foldS_at h2
      have Hv := Lib.hid (show changesS l f t = ((chgsR fa fb).foldl (insR plLt) [], 0) by unfold changesS; rw [hfa, hfb, if_neg (by simp), if_neg (by simp)])
      simp only [hfb] at Ht
      have Ffa := Lib.hid ffa
      have Ffb := Lib.hid ffb
      clear h1 h2 hfa hfb ffa ffb
      go_enter Tryz.func5, Tryz.ntmps5
      go_wp2_with (first
        | (go_at_call 10; (with_reducible refine Hf.out.mono ?_); rintro e w1 ⟨A, ca, rfl, hs1, hb1⟩; have Hs1 := Lib.hid hs1; have Hb1 := Lib.hid hb1; clear hs1 hb1)
        | (go_at_call 10; (with_reducible refine (Ht.out _ Hb1.out).mono ?_); rintro e w2 ⟨B, cb, rfl, hs2, hb2⟩; have Hs2 := Lib.hid hs2; have Hb2 := Lib.hid hb2; clear hs2 hb2)
        | (go_at_call 11; (refine (places_ok _ w2.heap.size A B fa fb ca cb (by simp) (two_cell0' _ _ _ _) (two_cell1' _ _ _ _) (((Hs1.out.z tenR_stays).below tenR_stays Hb2.out).below tenR_stays (by repeat' (first | exact Below.refl _ _ | assumption | refine Below.drew ?_ | refine below_drewN ?_ _ | refine Below.setCell ?_ (by first | (simp; done) | omega | (simp; omega)) _ | refine Below.alloc ?_ (by first | exact Nat.le_refl _ | omega | (simp; done) | (simp; omega)) _))) ((Hs2.out.z tenR_stays).below tenR_stays (by repeat' (first | exact Below.refl _ _ | assumption | refine Below.drew ?_ | refine below_drewN ?_ _ | refine Below.setCell ?_ (by first | (simp; done) | omega | (simp; omega)) _ | refine Below.alloc ?_ (by first | exact Nat.le_refl _ | omega | (simp; done) | (simp; omega)) _))) Ffa.out Ffb.out).mono ?_); rintro e w3 ⟨v3, l', rfl, hown3, hperm, hpw, hb3⟩; obtain ⟨P, cp, rfl, hcp, hsp⟩ := hown3.readc wrR_stays; have Hsp := Lib.hid (hsp.lo wrR_stays (show w2.heap.size ≤ _ by simp)); have Hb3 := Lib.hid (show Below w2.heap.size w2 w3 from ((Below.refl _ _).alloc (Nat.le_refl _) _).next hb3 (by simp)); have Hpl := Lib.hid (comp_places hperm hpw); have Hcl := Lib.hid (show (compS l').length ≤ 960 from Nat.le_trans (comp_len l') (by rw [hperm.length_eq]; exact places_len Ffa.out Ffb.out)); clear hown3 hperm hpw hb3 hsp hcp))
      have Hb02 := Lib.hid (Hb1.out.next Hb2.out Hb1.out.size)
      have Hb03 := Lib.hid (Hb02.out.next Hb3.out Hb02.out.size)
      have Hfa := Lib.hid (((Hs1.out.z tenR_stays).below tenR_stays Hb2.out).below tenR_stays Hb3.out)
      have Hfb := Lib.hid ((Hs2.out.z tenR_stays).below tenR_stays Hb3.out)
      obtain ⟨m, hm⟩ : ∃ m, m = w.heap.size := ⟨_, rfl⟩
      have hmn : m ≤ w3.heap.size := by have := Hb03.out.size; omega
      have Hsp2 := Lib.hid (Hsp.out.lo wrR_stays (show m ≤ w2.heap.size by have := Hb02.out.size; omega))
      have Hwm := Lib.hid (show w.heap.size ≤ m by omega)
      clear hm Hsp Hs1 Hs2 Hf Ht
      have Hend := Lib.hid (show (compS l').filterMap (chgOne fa fb) = (chgsR fa fb).foldl (insR plLt) [] from changes_eq Ffa.out Ffb.out Hpl.out.1 Hpl.out.2)
      have Hmem := Lib.hid (fun x (h : x ∈ compS l') => place_fine Ffa.out Ffb.out ((Hpl.out.2 x).1 h))
      generalize compS l' = pl at *
      have hpl9 := Hcl.out
      go_loopw [11, 41] (fun v i wr => ∃ k : Nat, k ≤ pl.length ∧ i = .int .i64 k ∧ Own 4 WrR (From m) wr w3.heap.size 40 v ((pl.take k).filterMap (chgOne fa fb)) ∧ Below w3.heap.size w3 wr) (fun _ i _ => pl.length - (intOf i).toNat)
      case atStart => exact ⟨0, by omega, rfl, Own.nil _ _ _, Below.refl _ _⟩
      case round =>
        obtain ⟨k, hk, rfl, hown, hbel⟩ := hrel
        have Hbel := Lib.hid hbel
        have Hown := Lib.hid hown
        have hbz := hbel.size
        clear hown
        by_cases hlt : k < pl.length
        · obtain ⟨pg, po, A1, a1, B1, bk, C1, c1, hX, hpm, hal, hc1, hc2, hc3, hc4, hs1, hs2, hs3, hb1, hb2, hb3⟩ := wrs_at Hsp2.out hlt
          subst hX
          replace hc1 := (hbel.cell (p := ⟨pg, po + k * 4, none⟩) hal).trans hc1
          replace hc2 := (hbel.cell (p := ⟨pg, po + k * 4 + 1, none⟩) hal).trans hc2
          replace hc3 := (hbel.cell (p := ⟨pg, po + k * 4 + 2, none⟩) hal).trans hc3
          replace hc4 := (hbel.cell (p := ⟨pg, po + k * 4 + 3, none⟩) hal).trans hc4
          have hal' : pg < wr.heap.size := by omega
          have Hx1 := Lib.hid (hs1.bless (S' := fun b => m ≤ b ∧ b < w3.heap.size) fun b hb h => ⟨h, hb⟩)
          have Hx2 := Lib.hid (hs2.bless (S' := fun b => m ≤ b ∧ b < w3.heap.size) fun b hb h => ⟨h, hb⟩)
          obtain ⟨hnf, hkf⟩ := Hmem.out _ (List.getElem_mem hlt)
          have Hga := Lib.hid (tell_get Ffa.out hnf hkf)
          have Hgb := Lib.hid (tell_get Ffb.out hnf hkf)
          have Hla := Lib.hid (tell_len Ffa.out pl[k].name pl[k].key)
          have Hlb := Lib.hid (tell_len Ffb.out pl[k].name pl[k].key)
          have Hnx := Lib.hid (chg_next (a := fa) (b := fb) hlt)
          have Hcs := Lib.hid (chg_same (a := fa) (b := fb) (x := pl[k]))
          have Hcp := Lib.hid (fun xb vb => chg_put (a := fa) (b := fb) (x := pl[k]) (xb := xb) (vb := vb))
          have HL := Lib.hid (chg_len fa fb pl k)
          have Hlt := Lib.hid hlt
          generalize pl[k] = x at *
          generalize (pl.take k).filterMap (chgOne fa fb) = L at *
          have hi0' : (0 : Int) ≤ (k : Int) := by omega
          have hi1 : (k : Int) < (pl.length : Int) := by omega
          have hwg := (Below.refl wr.heap.size wr).alloc (Nat.le_refl _) (.cells #[.slice A1 x.name.length a1, .slice B1 x.key.length bk, .bool x.flag, .slice C1 x.value.length c1] 40)
          have hbg := box_new wr #[.slice A1 x.name.length a1, .slice B1 x.key.length bk, .bool x.flag, .slice C1 x.value.length c1] 40
          obtain ⟨ta, hta⟩ : ∃ ta, ta = tellS fa x.name x.key := ⟨_, rfl⟩
          obtain ⟨tb, htb⟩ : ∃ tb, tb = tellS fb x.name x.key := ⟨_, rfl⟩
          rw [← hta] at Hga Hla Hcs Hcp
          rw [← htb] at Hgb Hlb Hcs Hcp
          obtain ⟨xa, va⟩ := ta
          obtain ⟨xb, vb⟩ := tb
          clear hs1 hs2 hs3 hb3 hbel hnf hkf hta htb hlt
          go_upto_region 11 with fail
          obtain ⟨wg, hwge⟩ : ∃ wg, wg = wr.alloc (.cells #[.slice A1 x.name.length a1, .slice B1 x.key.length bk, .bool x.flag, .slice C1 x.value.length c1] 40) := ⟨_, rfl⟩
          rw [← hwge] at hwg hbg ⊢
          obtain ⟨g3, hg3e⟩ : ∃ g3, g3 = wr.heap.size := ⟨_, rfl⟩
          have hg3a : wr.heap.size ≤ g3 := by omega
          rw [← hg3e] at hbg ⊢
          have hg3l := (Array.getElem?_eq_some_iff.1 hbg).1
          obtain ⟨z0, z1, _, _⟩ := box4 hbg
          have hzg := hwg.size
          have Hbg := Lib.hid hbg
          have Hk1 := Lib.hid hwg
          have H3g := Lib.hid (Hbel.out.trans (hwg.mono hbz))
          clear hwge hg3e hwg hbg hc1 hc2 hc3 hc4
          go_upto_region 12 with (go_at_call 12; (with_reducible refine (forestGet_ok _ A fa ca A1 x.name a1 B1 x.key bk ?g1 ?g2 ?g3).mono ?_); (case g1 => exact Hfa.out.below tenR_stays H3g.out); (case g2 => exact Hx1.out.bz.bbelow H3g.out); (case g3 => exact Hx2.out.bz.bbelow H3g.out); rw [Hga.out]; rintro e w4 ⟨X4, x4, rfl, hs4, hb4⟩)
          have hx4 : (w4.alloc (.cells #[.bool xa, .slice X4 va.length x4] 42)).heap[w4.heap.size]? = some (.cells #[.bool xa, .slice X4 va.length x4] 42 (0, 0)) := box_new w4 _ _
          have hb45 : Below w4.heap.size w4 (w4.alloc (.cells #[.bool xa, .slice X4 va.length x4] 42)) := (Below.refl _ _).alloc (Nat.le_refl _) _
          generalize w4.alloc (.cells #[.bool xa, .slice X4 va.length x4] 42) = w5 at *
          have hz4 := hb4.size
          have hz5 := hb45.size
          have hg4l := (Array.getElem?_eq_some_iff.1 hx4).1
          have Hbg5 := Lib.hid ((hb45.block g3 (by omega)).trans ((hb4.block g3 hg3l).trans Hbg.out))
          obtain ⟨z0, z1, _, _⟩ := box4 Hbg5.out
          have hg35 : g3 < w5.heap.size := by omega
          have Hk5 := Lib.hid (Hk1.out.trans ((hb4.mono (by omega)).trans (hb45.mono (by omega))))
          have H35 := Lib.hid (Hbel.out.trans (Hk5.out.mono hbz))
          have Hv5 := Lib.hid (hs4.bz.bbelow hb45)
          have Hx4 := Lib.hid hx4
          obtain ⟨g4, hg4e⟩ : ∃ g4, g4 = w4.heap.size := ⟨_, rfl⟩
          rw [← hg4e] at Hx4 hg4l ⊢
          clear hs4 hb4 hb45 hx4 hg4e
          go_upto_region 13 with (go_at_call 12; (with_reducible refine (forestGet_ok _ B fb cb A1 x.name a1 B1 x.key bk ?g1 ?g2 ?g3).mono ?_); (case g1 => exact Hfb.out.below tenR_stays H35.out); (case g2 => exact Hx1.out.bz.bbelow H35.out); (case g3 => exact Hx2.out.bz.bbelow H35.out); rw [Hgb.out]; rintro e w6 ⟨X6, x6, rfl, hs6, hb6⟩)
          have hx6 : (w6.alloc (.cells #[.bool xb, .slice X6 vb.length x6] 42)).heap[w6.heap.size]? = some (.cells #[.bool xb, .slice X6 vb.length x6] 42 (0, 0)) := box_new w6 _ _
          have hb67 : Below w6.heap.size w6 (w6.alloc (.cells #[.bool xb, .slice X6 vb.length x6] 42)) := (Below.refl _ _).alloc (Nat.le_refl _) _
          generalize w6.alloc (.cells #[.bool xb, .slice X6 vb.length x6] 42) = w7 at *
          have hz6 := hb6.size
          have hz7 := hb67.size
          have hg6l := (Array.getElem?_eq_some_iff.1 hx6).1
          have Hb57 := Lib.hid (hb6.trans (hb67.mono hz6))
          have Hbg7 := Lib.hid ((Hb57.out.block g3 hg35).trans Hbg5.out)
          have Hx4' := Lib.hid ((Hb57.out.block g4 hg4l).trans Hx4.out)
          have hg37 : g3 < w7.heap.size := by omega
          have hg47 : g4 < w7.heap.size := by omega
          have Hk7 := Lib.hid (Hk5.out.trans (Hb57.out.mono (by omega)))
          have H37 := Lib.hid (Hbel.out.trans (Hk7.out.mono hbz))
          have Hv4 := Lib.hid (Hv5.out.bbelow Hb57.out)
          have Hv6 := Lib.hid (hs6.bbelow hb67)
          have Hx6 := Lib.hid hx6
          obtain ⟨g6, hg6e⟩ : ∃ g6, g6 = w6.heap.size := ⟨_, rfl⟩
          rw [← hg6e] at Hx6 hg6l ⊢
          have hg36 : g3 ≠ g6 := by omega
          have hg63 : g6 ≠ g3 := by omega
          clear hs6 hb6 hb67 hx6 hg6e z0 z1
          obtain ⟨z0, z1, z2, z3, y0, y1, y2, y3⟩ := box4 Hbg7.out
          obtain ⟨d0, d1, _, _⟩ := box2 Hx4'.out
          obtain ⟨e0, e1, _, _⟩ := box2 Hx6.out
          have hh3 : w3.heap.size ≤ g3 := by omega
          by_cases hsm : (xa, va) = (xb, vb)
          · injection hsm with h1 h2
            have hnx := Hnx.out
            rw [Hcs.out (by rw [h1, h2]), Option.toList_none, List.append_nil] at hnx
            have Hn := Lib.hid hnx
            have b1 : (xa == xb) = true := by simp [h1]
            have Hq := Lib.hid (show (va == vb) = true by simp [h2])
            clear h1 h2 hnx
            go_wp2_with (go_at_call 13; (with_reducible refine (bytesEqual_ok _ X4 X6 va vb x4 x6 ?g1 ?g2).mono ?_); (case g1 => exact Hv4.out); (case g2 => exact Hv6.out.bz); rw [Hq.out]; rintro e w8 ⟨rfl, rfl⟩)
            go_roundw
            case rel => exact ⟨k + 1, Hlt.out, by go_num, by rw [Hn.out]; exact Hown.out.below wrR_stays Hk7.out, H37.out⟩
            case measure => simp [intOf]; have hlt9 := Hlt.out; omega
          · have hnx := Hnx.out
            rw [Hcp.out xb vb hsm rfl, Option.toList_some] at hnx
            have Hn := Lib.hid hnx
            clear hnx
            by_cases h1 : xa = xb
            · have Hq := Lib.hid (show (va == vb) = false by
                rw [beq_eq_false_iff_ne]
                intro e
                exact hsm (by rw [h1, e]))
              have b1 : (xa == xb) = true := by simp [h1]
              clear h1 hsm
              go_upto_region 14 with (go_at_call 13; (with_reducible refine (bytesEqual_ok _ X4 X6 va vb x4 x6 ?g1 ?g2).mono ?_); (case g1 => exact Hv4.out); (case g2 => exact Hv6.out.bz); rw [Hq.out]; rintro e w8 ⟨rfl, rfl⟩)
              go_region
              have hW : ((w7.setCell ⟨g3, 2, none⟩ (.bool (!xb))).setCell ⟨g3, 3, none⟩ (.slice X6 vb.length x6)).drew.heap[g3]? = some (.cells #[.slice A1 x.name.length a1, .slice B1 x.key.length bk, .bool (!xb), .slice X6 vb.length x6] 40 (0, 0)) := by
                show ((w7.setCell ⟨g3, 2, none⟩ (.bool (!xb))).setCell ⟨g3, 3, none⟩ (.slice X6 vb.length x6)).heap[g3]? = _
                rw [heap_setCell_same _ _ _ _ _ _ (heap_setCell_same _ _ _ _ _ _ Hbg7.out)]
                rfl
              have hB : Below wr.heap.size wr ((w7.setCell ⟨g3, 2, none⟩ (.bool (!xb))).setCell ⟨g3, 3, none⟩ (.slice X6 vb.length x6)).drew := ((Hk7.out.setCell (p := ⟨g3, 2, none⟩) hg3a _).setCell (p := ⟨g3, 3, none⟩) hg3a _).drew
              have hS : Bs (From w5.heap.size) ((w7.setCell ⟨g3, 2, none⟩ (.bool (!xb))).setCell ⟨g3, 3, none⟩ (.slice X6 vb.length x6)).drew X6 vb := Hv6.out.bsame (((Same.refl _ _).setCell (p := ⟨g3, 2, none⟩) (fun h => Nat.not_le_of_lt hg35 h) _).setCell (p := ⟨g3, 3, none⟩) (fun h => Nat.not_le_of_lt hg35 h) _).drew
              generalize ((w7.setCell ⟨g3, 2, none⟩ (.bool (!xb))).setCell ⟨g3, 3, none⟩ (.slice X6 vb.length x6)).drew = WF at *
              clear z0 z1 z2 z3 y0 y1 y2 y3 d0 d1 e0 e1
              obtain ⟨z0, z1, z2, z3, _⟩ := box4 hW
              have hgF := (Array.getElem?_eq_some_iff.1 hW).1
              have H3F := Lib.hid (Hbel.out.trans (hB.mono hbz))
              have hwr5 : wr.heap.size ≤ w5.heap.size := by omega
              have HownF := Lib.hid (Hown.out.keep wrR_stays (T := fun b => b < wr.heap.size) (Same.of_lt hB (fun k h => h)) (fun b hb _ => hb) (fun b hb => Nat.lt_of_not_le fun h => Hown.out.apart _ (Nat.le_refl _) b h hb) (S2 := From m) (fun b _ h => h) (Nat.le_refl _))
              have HdF := Lib.hid (show ∀ W, Below w3.heap.size w3 W → Below WF.heap.size WF W → WrR (fun b => From m b ∧ u11.ownBlock ≠ some b) W [.slice A1 x.name.length a1, .slice B1 x.key.length bk, .bool (!xb), .slice X6 vb.length x6] ⟨x.name, x.key, !xb, vb⟩ from fun W h1 h2 => ⟨A1, a1, B1, bk, X6, x6, rfl, (Hx1.out.bbelow h1).bless (fun b _ h => ⟨h.1, fun e => by have := Hown.out.low b e; omega⟩), (Hx2.out.bbelow h1).bless (fun b _ h => ⟨h.1, fun e => by have := Hown.out.low b e; omega⟩), (hS.bbelow h2).bless (fun b _ h => ⟨show m ≤ b by have h' : w5.heap.size ≤ b := h; omega, Hown.out.apart _ (Nat.le_refl _) b (show wr.heap.size ≤ b by have h' : w5.heap.size ≤ b := h; omega)⟩), hb1, hb2, Hlb.out⟩)
              clear hW hB hS
              go_wp2_with (at_builtin; refine wpl_snoc wrR_stays (S := From m) _ rfl _ _ _ rfl w3.heap.size 40 i0 _ 4 80 Tryz.underlying24 hi0 hz0 hz1 hz2 rfl (by decide) _ (L) rfl ?hown _ _ [.slice A1 x.name.length a1, .slice B1 x.key.length bk, .bool (!xb), .slice X6 vb.length x6] rfl rfl (new_src _ _ [.slice A1 x.name.length a1, .slice B1 x.key.length bk, .bool (!xb), .slice X6 vb.length x6] _ (by simp)) (by simp [Value.oneCell']) ?hm ?hby ?hba ⟨x.name, x.key, !xb, vb⟩ ?hd ?_; (case hown => exact HownF.out.below wrR_stays ((Below.refl _ _).alloc (Nat.le_refl _) _)); (case hm => (have h9 := HL.out; simp only [maxLen]; omega)); (case hby => (have h9 := HL.out; omega)); (case hba => exact (H3F.out.alloc H3F.out.size _).size); (case hd => exact HdF.out _ (H3F.out.alloc H3F.out.size _) ((Below.refl _ _).alloc (Nat.le_refl _) _)); intro v9 w9 hown9 hbw9)
              go_roundw
              case rel => exact ⟨k + 1, Hlt.out, by go_num, by rw [Hn.out]; exact hown9, (H3F.out.alloc H3F.out.size _).trans hbw9⟩
              case measure => simp [intOf]; have hlt9 := Hlt.out; omega
            · have b1 : (xa == xb) = false := by simpa using h1
              clear h1 hsm
              go_upto_region 14 with fail
              go_region
              have hW : ((w7.setCell ⟨g3, 2, none⟩ (.bool (!xb))).setCell ⟨g3, 3, none⟩ (.slice X6 vb.length x6)).drew.heap[g3]? = some (.cells #[.slice A1 x.name.length a1, .slice B1 x.key.length bk, .bool (!xb), .slice X6 vb.length x6] 40 (0, 0)) := by
                show ((w7.setCell ⟨g3, 2, none⟩ (.bool (!xb))).setCell ⟨g3, 3, none⟩ (.slice X6 vb.length x6)).heap[g3]? = _
                rw [heap_setCell_same _ _ _ _ _ _ (heap_setCell_same _ _ _ _ _ _ Hbg7.out)]
                rfl
              have hB : Below wr.heap.size wr ((w7.setCell ⟨g3, 2, none⟩ (.bool (!xb))).setCell ⟨g3, 3, none⟩ (.slice X6 vb.length x6)).drew := ((Hk7.out.setCell (p := ⟨g3, 2, none⟩) hg3a _).setCell (p := ⟨g3, 3, none⟩) hg3a _).drew
              have hS : Bs (From w5.heap.size) ((w7.setCell ⟨g3, 2, none⟩ (.bool (!xb))).setCell ⟨g3, 3, none⟩ (.slice X6 vb.length x6)).drew X6 vb := Hv6.out.bsame (((Same.refl _ _).setCell (p := ⟨g3, 2, none⟩) (fun h => Nat.not_le_of_lt hg35 h) _).setCell (p := ⟨g3, 3, none⟩) (fun h => Nat.not_le_of_lt hg35 h) _).drew
              generalize ((w7.setCell ⟨g3, 2, none⟩ (.bool (!xb))).setCell ⟨g3, 3, none⟩ (.slice X6 vb.length x6)).drew = WF at *
              clear z0 z1 z2 z3 y0 y1 y2 y3 d0 d1 e0 e1
              obtain ⟨z0, z1, z2, z3, _⟩ := box4 hW
              have hgF := (Array.getElem?_eq_some_iff.1 hW).1
              have H3F := Lib.hid (Hbel.out.trans (hB.mono hbz))
              have hwr5 : wr.heap.size ≤ w5.heap.size := by omega
              have HownF := Lib.hid (Hown.out.keep wrR_stays (T := fun b => b < wr.heap.size) (Same.of_lt hB (fun k h => h)) (fun b hb _ => hb) (fun b hb => Nat.lt_of_not_le fun h => Hown.out.apart _ (Nat.le_refl _) b h hb) (S2 := From m) (fun b _ h => h) (Nat.le_refl _))
              have HdF := Lib.hid (show ∀ W, Below w3.heap.size w3 W → Below WF.heap.size WF W → WrR (fun b => From m b ∧ u11.ownBlock ≠ some b) W [.slice A1 x.name.length a1, .slice B1 x.key.length bk, .bool (!xb), .slice X6 vb.length x6] ⟨x.name, x.key, !xb, vb⟩ from fun W h1 h2 => ⟨A1, a1, B1, bk, X6, x6, rfl, (Hx1.out.bbelow h1).bless (fun b _ h => ⟨h.1, fun e => by have := Hown.out.low b e; omega⟩), (Hx2.out.bbelow h1).bless (fun b _ h => ⟨h.1, fun e => by have := Hown.out.low b e; omega⟩), (hS.bbelow h2).bless (fun b _ h => ⟨show m ≤ b by have h' : w5.heap.size ≤ b := h; omega, Hown.out.apart _ (Nat.le_refl _) b (show wr.heap.size ≤ b by have h' : w5.heap.size ≤ b := h; omega)⟩), hb1, hb2, Hlb.out⟩)
              clear hW hB hS
              go_wp2_with (at_builtin; refine wpl_snoc wrR_stays (S := From m) _ rfl _ _ _ rfl w3.heap.size 40 i0 _ 4 80 Tryz.underlying24 hi0 hz0 hz1 hz2 rfl (by decide) _ (L) rfl ?hown _ _ [.slice A1 x.name.length a1, .slice B1 x.key.length bk, .bool (!xb), .slice X6 vb.length x6] rfl rfl (new_src _ _ [.slice A1 x.name.length a1, .slice B1 x.key.length bk, .bool (!xb), .slice X6 vb.length x6] _ (by simp)) (by simp [Value.oneCell']) ?hm ?hby ?hba ⟨x.name, x.key, !xb, vb⟩ ?hd ?_; (case hown => exact HownF.out.below wrR_stays ((Below.refl _ _).alloc (Nat.le_refl _) _)); (case hm => (have h9 := HL.out; simp only [maxLen]; omega)); (case hby => (have h9 := HL.out; omega)); (case hba => exact (H3F.out.alloc H3F.out.size _).size); (case hd => exact HdF.out _ (H3F.out.alloc H3F.out.size _) ((Below.refl _ _).alloc (Nat.le_refl _) _)); intro v9 w9 hown9 hbw9)
              go_roundw
              case rel => exact ⟨k + 1, Hlt.out, by go_num, by rw [Hn.out]; exact hown9, (H3F.out.alloc H3F.out.size _).trans hbw9⟩
              case measure => simp [intOf]; have hlt9 := Hlt.out; omega
        · obtain rfl : k = pl.length := by omega
          have hown := Hown.out
          rw [List.take_length, Hend.out] at hown
          clear Hown
          go_wp2
          go_ret2
          rw [Hv.out]
          obtain ⟨O, co, rfl⟩ := own_slice hown
          refine ⟨O, co, rfl, ?_, ?_⟩
          · exact (hown.sl wrR_stays fun b hb _ => show m ≤ b by omega).lo wrR_stays Hwm.out
          · exact Hb03.out.trans (hbel.mono (by have := Hb03.out.size; omega))
    · have b2 : ((foldS l t).2 != 0) = true := by simpa using h2
      have Hv := Lib.hid (show changesS l f t = ([], (foldS l t).2) by unfold changesS; rw [hfa, if_neg (by simp), if_pos h2])
      clear h1 h2 hfa ffa
      go_enter Tryz.func5, Tryz.ntmps5
      go_wp2_with (first
        | (go_at_call 10; (with_reducible refine Hf.out.mono ?_); rintro e w1 ⟨A, ca, rfl, hs1, hb1⟩; have Hb1 := Lib.hid hb1; clear hs1 hb1)
        | (go_at_call 10; (with_reducible refine (Ht.out _ Hb1.out).mono ?_); rintro e w2 ⟨B, cb, rfl, hs2, hb2⟩))
      go_ret2
      rw [Hv.out]
      exact ⟨none, 0, rfl, SL.nil, Hb1.out.next hb2 Hb1.out.size⟩
  · have b1 : ((foldS l f).2 != 0) = true := by simpa using h1
    have Hv := Lib.hid (show changesS l f t = ([], (foldS l f).2) by unfold changesS; rw [if_pos h1])
    clear h1
    go_enter Tryz.func5, Tryz.ntmps5
    go_wp2_with (go_at_call 10; (with_reducible refine Hf.out.mono ?_); rintro e w1 ⟨A, ca, rfl, hs1, hb1⟩; have Hb1 := Lib.hid hb1; clear hs1 hb1)
    go_ret2
    rw [Hv.out]
    exact ⟨none, 0, rfl, SL.nil, Hb1.out⟩
end Go.Proofs.YthohkgggodhbcaaGreat
