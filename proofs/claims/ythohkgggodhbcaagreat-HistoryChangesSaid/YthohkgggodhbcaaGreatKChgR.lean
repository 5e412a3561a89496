/- ChgR: Walk: the reference's ChangesOf. The conditions of each are in its words. -/
import Derived.Test.YthohkgggodhbcaaGreatKChgI
import Derived.Test.YthohkgggodhbcaaGreatKCommit
namespace Go.Proofs.YthohkgggodhbcaaGreat
open Go.RowKit
set_option linter.unusedVariables false
set_option linter.unusedSimpArgs false

/-- What Changes and ChangesOf answer. -/
def changesS (l : List Cm) (f t : Int) : List Wr × Int := if (foldS l f).2 ≠ 0 then ([], (foldS l f).2) else if (foldS l t).2 ≠ 0 then ([], (foldS l t).2) else ((chgsR (foldS l f).1 (foldS l t).1).foldl (insR plLt) [], 0)
/-- The call returns writes and a number. -/
def RetWsE (w : World) (r : List Wr × Int) (e : Ending) (w' : World) : Prop := ∃ A c, e = .returned (.tuple #[.slice A r.1.length c, .int .i64 r.2]) ∧ Ws (From w.heap.size) w' A r.1 ∧ Below w.heap.size w w'
theorem foldS_fine (l : List Cm) (t : Int) : Fine (foldS l t).1 := by
  unfold foldS
  split
  · rfl
  · split
    · rfl
    · exact foldedS_fine l _
theorem foldS_at {l : List Cm} {t : Int} (h : (foldS l t).2 = 0) : ∃ f, foldS l t = (f, 0) ∧ Fine f := ⟨(foldS l t).1, Prod.ext rfl h, foldS_fine l t⟩
set_option maxRecDepth 100000 in
set_option maxHeartbeats 1500000 in
theorem changesOf_ok (w : World) (A0 : Option Addr) (l : List Cm) (c0 : Nat) (f t : Int) (ha : Cs All w A0 l) :
    Calls Tryz.prog 6 #[.slice A0 l.length c0, .int .i64 f, .int .i64 t] w (RetWsE w (changesS l f t)) := by
  have Hf := Lib.hid (foldOf_ok w A0 l c0 f ha)
  have Ht := Lib.hid (fun w' (h : Below w.heap.size w w') => foldOf_ok w' A0 l c0 t (ha.below cmR_stays h))
  clear ha
  by_cases h1 : (foldS l f).2 = 0
  · obtain ⟨fa, hfa, ffa⟩ := foldS_at h1
    rw [hfa] at Hf
    by_cases h2 : (foldS l t).2 = 0
    · obtain ⟨fb, hfb, ffb⟩ := foldS_at h2
      have Hv := Lib.hid (show changesS l f t = ((chgsR fa fb).foldl (insR plLt) [], 0) by unfold changesS; rw [hfa, hfb, if_neg (by simp), if_neg (by simp)])
      simp only [hfb] at Ht
      have Ffa := Lib.hid ffa
      have Ffb := Lib.hid ffb
      have Hfa8 := Lib.hid (fine_pairs ffa).1
      have Hfb8 := Lib.hid (fine_pairs ffb).1
      clear h1 h2 hfa hfb ffa ffb
      go_enter Tryz.func6, Tryz.ntmps6
      go_wp2_with (first
        | (go_at_call 14; (with_reducible refine Hf.out.mono ?_); rintro e w1 ⟨A, ca, rfl, hs1, hb1⟩; have Hs1 := Lib.hid hs1; have Hb1 := Lib.hid hb1; clear hs1 hb1)
        | (go_at_call 14; (with_reducible refine (Ht.out _ Hb1.out).mono ?_); rintro e w2 ⟨B, cb, rfl, hs2, hb2⟩))
      have Hb2 := Lib.hid (Hb1.out.next hb2 Hb1.out.size)
      have Hfa := Lib.hid ((Hs1.out.z tenR_stays).below tenR_stays hb2)
      have Hfb := Lib.hid (hs2.z tenR_stays)
      obtain ⟨m, hm⟩ : ∃ m, m = w2.heap.size := ⟨_, rfl⟩
      have Hm := Lib.hid (show w.heap.size ≤ m by rw [hm]; exact Hb2.out.size)
      have Hm2 := Lib.hid (show w2.heap.size ≤ m by rw [hm]; exact Nat.le_refl _)
      clear hs2 hb2 Hs1 Hf Ht
      go_loopw [11, 12] (fun v i wr => ∃ (k : Nat) (O : Option Addr) (co : Nat), k ≤ fb.length ∧ i = .int .i64 k ∧ v = .slice O (ins1 fa (flatP (fb.take k))).length co ∧ Ws (From m) wr O (ins1 fa (flatP (fb.take k))) ∧ Below m w2 wr) (fun _ i _ => fb.length - (intOf i).toNat)
      case atStart => exact ⟨0, none, 0, by omega, rfl, rfl, SL.nil, Below.refl _ _⟩
      case round =>
        obtain ⟨k, O, co, hk, rfl, rfl, hO, hbel⟩ := hrel
        have HO := Lib.hid hO
        have Hbel := Lib.hid hbel
        have hbz : m ≤ wr.heap.size := by have := hbel.size; omega
        clear hO hbel
        by_cases hlt : k < fb.length
        · obtain ⟨ab, ao, K, c1, V, d1, hX, _, hal, hc1, hc2, hs1, hs2, hxb, hxp, _⟩ := tens_at (Hfb.out.below tenR_stays (Hbel.out.mono (by omega))) hlt
          subst hX
          have Hx0 := Lib.hid hs1.bz
          have Hx2 := Lib.hid (hs2.z pairR_stays)
          have Hnx := Lib.hid (flat_next hlt)
          have Hlt := Lib.hid hlt
          have Hl0 := Lib.hid (fine_flat Ffb.out k)
          have Hx60 := Lib.hid ((fine_pairs Ffb.out).2 _ (List.getElem_mem hlt))
          generalize fb[k] = x at *
          generalize flatP (fb.take k) = xs0 at *
          have hi0 : (0 : Int) ≤ (k : Int) := by omega
          have hi1 : (k : Int) < (fb.length : Int) := by omega
          clear hs1 hs2
          go_wp2
          obtain ⟨wm, rfl⟩ : ∃ wm : World, wm = wr := ⟨_, rfl⟩
          go_loopw [11, 13] (fun v j wr => ∃ (q : Nat) (O : Option Addr) (co : Nat), q ≤ x.2.length ∧ j = .int .i64 q ∧ v = .slice O (ins1 fa (xs0 ++ upP x q)).length co ∧ Ws (From m) wr O (ins1 fa (xs0 ++ upP x q)) ∧ Below wm.heap.size wm wr ∧ Below m w2 wr) (fun _ j _ => x.2.length - (intOf j).toNat)
          case atStart => exact ⟨0, O, co, by omega, rfl, by rw [upP_zero, List.append_nil], by rw [upP_zero, List.append_nil]; exact HO.out, Below.refl _ _, Hbel.out⟩
          case round =>
            clear HO Hbel
            obtain ⟨q, O, co, hq, rfl, rfl, hO, hbel, hbw⟩ := hrel
            have HO := Lib.hid hO
            have Hbel := Lib.hid hbel
            have Hbw := Lib.hid hbw
            have hbz2 := hbel.size
            replace hc1 := (hbel.cell (p := ⟨ab, ao + k * 2, none⟩) hal).trans hc1
            replace hc2 := (hbel.cell (p := ⟨ab, ao + k * 2 + 1, none⟩) hal).trans hc2
            have hal2 : ab < wr.heap.size := by omega
            clear hO hbel hbw
            by_cases hlt2 : q < x.2.length
            · obtain ⟨pb, po, K0, k0, V0, v0, hX, _, hal3, hd1, hd2, ht1, ht2, hpb1, hpb2⟩ := pairs_at (Hx2.out.below pairR_stays Hbel.out) hlt2
              subst hX
              have Hx1 := Lib.hid (Hx0.out.bbelow Hbel.out)
              have Hp1 := Lib.hid ht1.bz
              have Hp2 := Lib.hid ht2.bz
              have Hup := Lib.hid (upP_next hlt2)
              have Hlen := Lib.hid (show (ins1 fa (xs0 ++ upP x q)).length ≤ 1080 from by
                have h1 := upP_len x q
                have h2 := Hl0.out
                have h3 := Hx60.out
                have h4 := ins1_len fa (xs0 ++ upP x q)
                simp only [List.length_append] at h4
                omega)
              generalize x.2[q] = p at *
              have hj0 : (0 : Int) ≤ (q : Int) := by omega
              have hj1 : (q : Int) < (x.2.length : Int) := by omega
              clear ht1 ht2
              have hwg := (Below.refl wr.heap.size wr).alloc (Nat.le_refl _) (.cells #[.slice K0 p.1.length k0, .slice V0 p.2.length v0] 50)
              have hbg := box_new wr #[.slice K0 p.1.length k0, .slice V0 p.2.length v0] 50
              go_upto_region 15 with fail
              obtain ⟨wg, hwge⟩ : ∃ wg, wg = wr.alloc (.cells #[.slice K0 p.1.length k0, .slice V0 p.2.length v0] 50) := ⟨_, rfl⟩
              rw [← hwge] at hwg hbg ⊢
              obtain ⟨gb, hgbe⟩ : ∃ gb, gb = wr.heap.size := ⟨_, rfl⟩
              rw [← hgbe] at hbg ⊢
              have hgl := (Array.getElem?_eq_some_iff.1 hbg).1
              obtain ⟨z1, z2, _, _⟩ := box2 hbg
              have z0 := (hwg.cell (p := ⟨ab, ao + k * 2, none⟩) hal2).trans hc1
              have hzg := hwg.size
              have hal4 : ab < wg.heap.size := by omega
              have hmg : m ≤ wg.heap.size := by have := Hbw.out.size; omega
              replace Hx1 := Lib.hid (Hx1.out.bbelow hwg)
              replace Hp1 := Lib.hid (Hp1.out.bbelow hwg)
              replace Hp2 := Lib.hid (Hp2.out.bbelow hwg)
              have HOg := Lib.hid (HO.out.below wrR_stays hwg)
              have Hwg := Lib.hid hwg
              have Hbg := Lib.hid (Hbw.out.trans (hwg.mono (by have := Hbw.out.size; omega)))
              clear hwge hgbe hwg hbg hc1 hc2 hd1 hd2 HO
              rcases Bool.eq_false_or_eq_true (findVal (pairsOfS fa x.1) p.1 == some p.2) with hs | hs
              · have Hq := Lib.hid hs
                have Hst := Lib.hid (ins1_same (xs := xs0 ++ upP x q) hs)
                rw [List.append_assoc, ← Hup.out] at Hst
                clear hs
                go_region_held3 (fun w' => w'.cell? ⟨ab, ao + k * 2, none⟩ = some (.slice K x.1.length c1) ∧ w'.cell? ⟨gb, 0, none⟩ = some (.slice K0 p.1.length k0) ∧ w'.cell? ⟨gb, 1, none⟩ = some (.slice V0 p.2.length v0))
                  (first
                    | (with_reducible exact ⟨q30, q31, q32⟩)
                    | go_keep)
                  ((go_at_call 15; (with_reducible refine (changeless_ok _ A fa ca K x.1 c1 K0 V0 p k0 v0 ?g1 ?g2 ?g3 ?g4 Hfa8.out).mono ?_); (case g1 => exact (Hfa.out.below tenR_stays (Hbg.out.mono Hm2.out)).below tenR_stays (by repeat' (first | exact Below.refl _ _ | assumption | refine Below.drew ?_ | refine below_drewN ?_ _ | refine Below.setCell ?_ (by first | (simp; done) | omega | (simp; omega)) _ | refine Below.alloc ?_ (by first | exact Nat.le_refl _ | omega | (simp; done) | (simp; omega)) _))); (case g2 => exact Hx1.out.bbelow (by repeat' (first | exact Below.refl _ _ | assumption | refine Below.drew ?_ | refine below_drewN ?_ _ | refine Below.setCell ?_ (by first | (simp; done) | omega | (simp; omega)) _ | refine Below.alloc ?_ (by first | exact Nat.le_refl _ | omega | (simp; done) | (simp; omega)) _))); (case g3 => exact Hp1.out.bbelow (by repeat' (first | exact Below.refl _ _ | assumption | refine Below.drew ?_ | refine below_drewN ?_ _ | refine Below.setCell ?_ (by first | (simp; done) | omega | (simp; omega)) _ | refine Below.alloc ?_ (by first | exact Nat.le_refl _ | omega | (simp; done) | (simp; omega)) _))); (case g4 => exact Hp2.out.bbelow (by repeat' (first | exact Below.refl _ _ | assumption | refine Below.drew ?_ | refine below_drewN ?_ _ | refine Below.setCell ?_ (by first | (simp; done) | omega | (simp; omega)) _ | refine Below.alloc ?_ (by first | exact Nat.le_refl _ | omega | (simp; done) | (simp; omega)) _))); rw [Hq.out]; rintro e w3 ⟨rfl, hb3⟩; have hk3 : Below wg.heap.size wg w3 := (Below.refl _ _).drew.next hb3 (by simp); have q30 := (hk3.cell (p := ⟨ab, ao + k * 2, none⟩) hal4).trans z0; have q31 := (hk3.cell (p := ⟨gb, 0, none⟩) hgl).trans z1; have q32 := (hk3.cell (p := ⟨gb, 1, none⟩) hgl).trans z2))
                have Hw3 := Lib.hid (Hbg.out.trans (hk3.mono (by omega)))
                have hal5 : ab < w3.heap.size := by have := hk3.size; omega
                have hgl5 : gb < w3.heap.size := by have := hk3.size; omega
                have HO3 := Lib.hid (HOg.out.below wrR_stays hk3)
                have Hx3 := Lib.hid (Hx1.out.bbelow hk3)
                have Hp3 := Lib.hid (Hp1.out.bbelow hk3)
                have Hv3 := Lib.hid (Hp2.out.bbelow hk3)
                have Hk3 := Lib.hid hk3
                clear hk3 hb3 z0 z1 z2
                go_wp2
                go_roundw
                case rel => exact ⟨q + 1, O, co, by omega, by go_num, by rw [Hst.out], by rw [Hst.out]; exact HO3.out, (Hbel.out.next Hwg.out hbz2).trans (Hk3.out.mono (by omega)), Hw3.out⟩
                case measure => simp [intOf]; omega
              · have Hq := Lib.hid hs
                have Hst := Lib.hid (ins1_put (xs := xs0 ++ upP x q) hs)
                rw [List.append_assoc, ← Hup.out] at Hst
                clear hs
                go_region_held3 (fun w' => w'.cell? ⟨ab, ao + k * 2, none⟩ = some (.slice K x.1.length c1) ∧ w'.cell? ⟨gb, 0, none⟩ = some (.slice K0 p.1.length k0) ∧ w'.cell? ⟨gb, 1, none⟩ = some (.slice V0 p.2.length v0))
                  (first
                    | (with_reducible exact ⟨q30, q31, q32⟩)
                    | go_keep)
                  ((go_at_call 15; (with_reducible refine (changeless_ok _ A fa ca K x.1 c1 K0 V0 p k0 v0 ?g1 ?g2 ?g3 ?g4 Hfa8.out).mono ?_); (case g1 => exact (Hfa.out.below tenR_stays (Hbg.out.mono Hm2.out)).below tenR_stays (by repeat' (first | exact Below.refl _ _ | assumption | refine Below.drew ?_ | refine below_drewN ?_ _ | refine Below.setCell ?_ (by first | (simp; done) | omega | (simp; omega)) _ | refine Below.alloc ?_ (by first | exact Nat.le_refl _ | omega | (simp; done) | (simp; omega)) _))); (case g2 => exact Hx1.out.bbelow (by repeat' (first | exact Below.refl _ _ | assumption | refine Below.drew ?_ | refine below_drewN ?_ _ | refine Below.setCell ?_ (by first | (simp; done) | omega | (simp; omega)) _ | refine Below.alloc ?_ (by first | exact Nat.le_refl _ | omega | (simp; done) | (simp; omega)) _))); (case g3 => exact Hp1.out.bbelow (by repeat' (first | exact Below.refl _ _ | assumption | refine Below.drew ?_ | refine below_drewN ?_ _ | refine Below.setCell ?_ (by first | (simp; done) | omega | (simp; omega)) _ | refine Below.alloc ?_ (by first | exact Nat.le_refl _ | omega | (simp; done) | (simp; omega)) _))); (case g4 => exact Hp2.out.bbelow (by repeat' (first | exact Below.refl _ _ | assumption | refine Below.drew ?_ | refine below_drewN ?_ _ | refine Below.setCell ?_ (by first | (simp; done) | omega | (simp; omega)) _ | refine Below.alloc ?_ (by first | exact Nat.le_refl _ | omega | (simp; done) | (simp; omega)) _))); rw [Hq.out]; rintro e w3 ⟨rfl, hb3⟩; have hk3 : Below wg.heap.size wg w3 := (Below.refl _ _).drew.next hb3 (by simp); have q30 := (hk3.cell (p := ⟨ab, ao + k * 2, none⟩) hal4).trans z0; have q31 := (hk3.cell (p := ⟨gb, 0, none⟩) hgl).trans z1; have q32 := (hk3.cell (p := ⟨gb, 1, none⟩) hgl).trans z2))
                have Hw3 := Lib.hid (Hbg.out.trans (hk3.mono (by omega)))
                have hal5 : ab < w3.heap.size := by have := hk3.size; omega
                have hgl5 : gb < w3.heap.size := by have := hk3.size; omega
                have HO3 := Lib.hid (HOg.out.below wrR_stays hk3)
                have Hx3 := Lib.hid (Hx1.out.bbelow hk3)
                have Hp3 := Lib.hid (Hp1.out.bbelow hk3)
                have Hv3 := Lib.hid (Hp2.out.bbelow hk3)
                have Hk3 := Lib.hid hk3
                clear hk3 hb3 z0 z1 z2
                go_wp2_with fail
                go_region_held3 (fun w' => w'.cell? ⟨ab, ao + k * 2, none⟩ = some (.slice K x.1.length c1) ∧ w'.cell? ⟨gb, 0, none⟩ = some (.slice K0 p.1.length k0) ∧ w'.cell? ⟨gb, 1, none⟩ = some (.slice V0 p.2.length v0))
                  (first
                    | (with_reducible exact ⟨q40, q41, q42⟩)
                    | (with_reducible exact ⟨q50, q51, q52⟩)
                    | (with_reducible exact ⟨q60, q61, q62⟩)
                    | (with_reducible exact ⟨q70, q71, q72⟩)
                    | go_keep)
                  (first
                    | (go_at_call_of 17 K; (with_reducible refine (joinedNil_ok _ K x.1 c1 ?ha hxb).mono ?_); (case ha => exact Hx3.out.bbelow (by repeat' (first | exact Below.refl _ _ | assumption | refine Below.drew ?_ | refine below_drewN ?_ _ | refine Below.setCell ?_ (by first | (simp; done) | omega | (simp; omega)) _ | refine Below.alloc ?_ (by first | exact Nat.le_refl _ | omega | (simp; done) | (simp; omega)) _))); rintro e w4 ⟨Ja4, ja4, rfl, hs4, hb4⟩; have hk4 : Below w3.heap.size w3 w4 := (Below.refl _ _).drew.next hb4 (by simp); have q40 := (hk4.cell (p := ⟨ab, ao + k * 2, none⟩) hal5).trans q30; have q41 := (hk4.cell (p := ⟨gb, 0, none⟩) hgl5).trans q31; have q42 := (hk4.cell (p := ⟨gb, 1, none⟩) hgl5).trans q32)
                    | (go_at_call_of 17 K0; (with_reducible refine (joinedNil_ok _ K0 p.1 k0 ?ha hpb1).mono ?_); (case ha => exact Hp3.out.bbelow (by repeat' (first | exact Below.refl _ _ | assumption | refine Below.drew ?_ | refine below_drewN ?_ _ | refine Below.setCell ?_ (by first | (simp; done) | omega | (simp; omega)) _ | refine Below.alloc ?_ (by first | exact Nat.le_refl _ | omega | (simp; done) | (simp; omega)) _))); rintro e w5 ⟨Ja5, ja5, rfl, hs5, hb5⟩; have hk5 : Below w3.heap.size w3 w5 := hk4.next hb5 hk4.size; have q50 := (hk5.cell (p := ⟨ab, ao + k * 2, none⟩) hal5).trans q30; have q51 := (hk5.cell (p := ⟨gb, 0, none⟩) hgl5).trans q31; have q52 := (hk5.cell (p := ⟨gb, 1, none⟩) hgl5).trans q32)
                    | (go_at_call_of 17 V0; (with_reducible refine (joinedNil_ok _ V0 p.2 v0 ?ha hpb2).mono ?_); (case ha => exact Hv3.out.bbelow (by repeat' (first | exact Below.refl _ _ | assumption | refine Below.drew ?_ | refine below_drewN ?_ _ | refine Below.setCell ?_ (by first | (simp; done) | omega | (simp; omega)) _ | refine Below.alloc ?_ (by first | exact Nat.le_refl _ | omega | (simp; done) | (simp; omega)) _))); rintro e w6 ⟨Ja6, ja6, rfl, hs6, hb6⟩; have hk6 : Below w3.heap.size w3 w6 := hk5.next hb6 hk5.size; have q60 := (hk6.cell (p := ⟨ab, ao + k * 2, none⟩) hal5).trans q30; have q61 := (hk6.cell (p := ⟨gb, 0, none⟩) hgl5).trans q31; have q62 := (hk6.cell (p := ⟨gb, 1, none⟩) hgl5).trans q32)
                    | (go_at_call 16; (with_reducible refine (inserted_ok _ m O (ins1 fa (xs0 ++ upP x q)) co Ja4 Ja5 Ja6 ⟨x.1, p.1, false, p.2⟩ ja4 ja5 ja6 ?g0 ?g9 ?g1 ?g2 ?g3 hxb hpb1 hpb2 ?g8).mono ?_); (case g0 => (have := Hw3.out.size; have := hk6.size; omega)); (case g9 => exact HO3.out.below wrR_stays hk6); (case g1 => exact (((hs4.bbelow hb5).bbelow hb6).blo (by have := Hw3.out.size; simp; omega))); (case g2 => exact ((hs5.bbelow hb6).blo (by have := Hw3.out.size; have := hk4.size; omega))); (case g3 => exact (hs6.blo (by have := Hw3.out.size; have := hk5.size; omega))); (case g8 => (have h8 := Hlen.out; omega)); rintro e w7 ⟨O7, c7, rfl, hs7, hb7⟩; have hk7 : Below w3.heap.size w3 w7 := hk6.next hb7 hk6.size; have q70 := (hk7.cell (p := ⟨ab, ao + k * 2, none⟩) hal5).trans q30; have q71 := (hk7.cell (p := ⟨gb, 0, none⟩) hgl5).trans q31; have q72 := (hk7.cell (p := ⟨gb, 1, none⟩) hgl5).trans q32))
                go_wp2
                go_roundw
                case rel => exact ⟨q + 1, O7, c7, by omega, by go_num, by rw [Hst.out], by rw [Hst.out]; exact hs7, (Hbel.out.next Hwg.out hbz2).trans (Hk3.out.mono (by omega)) |>.trans (hk7.mono (by have := Hk3.out.size; omega)), Hw3.out.trans (hk7.mono (by have := Hw3.out.size; omega))⟩
                case measure => simp [intOf]; omega
            · obtain rfl : q = x.2.length := by omega
              have hf8 := Hfb8.out
              go_wp2
              go_roundw
              case rel => exact ⟨k + 1, O, co, hlt, by go_num, by rw [Hnx.out], by rw [Hnx.out]; exact HO.out, Hbw.out⟩
              case measure => simp [intOf]; have hlt9 := Hlt.out; omega
        · obtain rfl : k = fb.length := by omega
          have HO5 := Lib.hid HO.out
          rw [flat_all] at HO5
          have Hbel5 := Lib.hid Hbel.out
          rw [flat_all]
          clear HO Hbel
          go_wp2
          obtain ⟨w5, rfl⟩ : ∃ w5 : World, w5 = wr := ⟨_, rfl⟩
          go_loopw [11, 15] (fun v i wr => ∃ (k : Nat) (O : Option Addr) (co : Nat), k ≤ fa.length ∧ i = .int .i64 k ∧ v = .slice O (ins2 fa fb (flatP (fa.take k))).length co ∧ Ws (From m) wr O (ins2 fa fb (flatP (fa.take k))) ∧ Below m w2 wr) (fun _ i _ => fa.length - (intOf i).toNat)
          case atStart => exact ⟨0, O, co, by omega, rfl, rfl, HO5.out, Hbel5.out⟩
          case round =>
            obtain ⟨k, O, co, hk, rfl, rfl, hO, hbel⟩ := hrel
            have HO := Lib.hid hO
            have Hbel := Lib.hid hbel
            have hbz : m ≤ wr.heap.size := by have := hbel.size; omega
            clear hO hbel
            by_cases hlt : k < fa.length
            · obtain ⟨ab, ao, K, c1, V, d1, hX, _, hal, hc1, hc2, hs1, hs2, hxb, hxp, _⟩ := tens_at (Hfa.out.below tenR_stays (Hbel.out.mono (by omega))) hlt
              subst hX
              have Hx0 := Lib.hid hs1.bz
              have Hx2 := Lib.hid (hs2.z pairR_stays)
              have Hnx := Lib.hid (flat_next hlt)
              have Hlt := Lib.hid hlt
              have Hl0 := Lib.hid (fine_flat Ffa.out k)
              have Hx60 := Lib.hid ((fine_pairs Ffa.out).2 _ (List.getElem_mem hlt))
              generalize fa[k] = x at *
              generalize flatP (fa.take k) = xs0 at *
              have hi0 : (0 : Int) ≤ (k : Int) := by omega
              have hi1 : (k : Int) < (fa.length : Int) := by omega
              clear hs1 hs2
              go_wp2
              obtain ⟨wm, rfl⟩ : ∃ wm : World, wm = wr := ⟨_, rfl⟩
              go_loopw [11, 16] (fun v j wr => ∃ (q : Nat) (O : Option Addr) (co : Nat), q ≤ x.2.length ∧ j = .int .i64 q ∧ v = .slice O (ins2 fa fb (xs0 ++ upP x q)).length co ∧ Ws (From m) wr O (ins2 fa fb (xs0 ++ upP x q)) ∧ Below wm.heap.size wm wr ∧ Below m w2 wr) (fun _ j _ => x.2.length - (intOf j).toNat)
              case atStart => exact ⟨0, O, co, by omega, rfl, by rw [upP_zero, List.append_nil], by rw [upP_zero, List.append_nil]; exact HO.out, Below.refl _ _, Hbel.out⟩
              case round =>
                clear HO Hbel
                obtain ⟨q, O, co, hq, rfl, rfl, hO, hbel, hbw⟩ := hrel
                have HO := Lib.hid hO
                have Hbel := Lib.hid hbel
                have Hbw := Lib.hid hbw
                have hbz2 := hbel.size
                replace hc1 := (hbel.cell (p := ⟨ab, ao + k * 2, none⟩) hal).trans hc1
                replace hc2 := (hbel.cell (p := ⟨ab, ao + k * 2 + 1, none⟩) hal).trans hc2
                have hal2 : ab < wr.heap.size := by omega
                clear hO hbel hbw
                by_cases hlt2 : q < x.2.length
                · obtain ⟨pb, po, K0, k0, V0, v0, hX, _, hal3, hd1, hd2, ht1, ht2, hpb1, hpb2⟩ := pairs_at (Hx2.out.below pairR_stays Hbel.out) hlt2
                  subst hX
                  have Hx1 := Lib.hid (Hx0.out.bbelow Hbel.out)
                  have Hp1 := Lib.hid ht1.bz
                  have Hp2 := Lib.hid ht2.bz
                  have Hup := Lib.hid (upP_next hlt2)
                  have Hlen := Lib.hid (show (ins2 fa fb (xs0 ++ upP x q)).length ≤ 1080 from by
                    have h1 := upP_len x q
                    have h2 := Hl0.out
                    have h3 := Hx60.out
                    have h4 := ins2_len fa fb (xs0 ++ upP x q); have h5 := fine_flat Ffb.out fb.length; rw [flat_all] at h5
                    simp only [List.length_append] at h4
                    omega)
                  generalize x.2[q] = p at *
                  have hj0 : (0 : Int) ≤ (q : Int) := by omega
                  have hj1 : (q : Int) < (x.2.length : Int) := by omega
                  clear ht1 ht2
                  have hwg := (Below.refl wr.heap.size wr).alloc (Nat.le_refl _) (.cells #[.slice K0 p.1.length k0, .slice V0 p.2.length v0] 50)
                  have hbg := box_new wr #[.slice K0 p.1.length k0, .slice V0 p.2.length v0] 50
                  go_upto_region 24 with fail
                  obtain ⟨wg, hwge⟩ : ∃ wg, wg = wr.alloc (.cells #[.slice K0 p.1.length k0, .slice V0 p.2.length v0] 50) := ⟨_, rfl⟩
                  rw [← hwge] at hwg hbg ⊢
                  obtain ⟨gb, hgbe⟩ : ∃ gb, gb = wr.heap.size := ⟨_, rfl⟩
                  rw [← hgbe] at hbg ⊢
                  have hgl := (Array.getElem?_eq_some_iff.1 hbg).1
                  obtain ⟨z1, z2, _, _⟩ := box2 hbg
                  have z0 := (hwg.cell (p := ⟨ab, ao + k * 2, none⟩) hal2).trans hc1
                  have hzg := hwg.size
                  have hal4 : ab < wg.heap.size := by omega
                  have hmg : m ≤ wg.heap.size := by have := Hbw.out.size; omega
                  replace Hx1 := Lib.hid (Hx1.out.bbelow hwg)
                  replace Hp1 := Lib.hid (Hp1.out.bbelow hwg)
                  replace Hp2 := Lib.hid (Hp2.out.bbelow hwg)
                  have HOg := Lib.hid (HO.out.below wrR_stays hwg)
                  have Hwg := Lib.hid hwg
                  have Hbg := Lib.hid (Hbw.out.trans (hwg.mono (by have := Hbw.out.size; omega)))
                  clear hwge hgbe hwg hbg hc1 hc2 hd1 hd2 HO
                  rcases Bool.eq_false_or_eq_true ((findVal (pairsOfS fb x.1) p.1).isSome) with hs | hs
                  · have Hq := Lib.hid hs
                    have Hst := Lib.hid (ins2_same (a := fa) (xs := xs0 ++ upP x q) hs)
                    rw [List.append_assoc, ← Hup.out] at Hst
                    clear hs
                    go_region_held3 (fun w' => w'.cell? ⟨ab, ao + k * 2, none⟩ = some (.slice K x.1.length c1) ∧ w'.cell? ⟨gb, 0, none⟩ = some (.slice K0 p.1.length k0))
                      (first
                        | (with_reducible exact ⟨q30, q31⟩)
                        | go_keep)
                      ((go_at_call 18; (with_reducible refine (keyIn_ok _ B fb cb K x.1 c1 K0 p.1 k0 ?g1 ?g2 ?g3 Hfb8.out).mono ?_); (case g1 => exact (Hfb.out.below tenR_stays (Hbg.out.mono Hm2.out)).below tenR_stays (by repeat' (first | exact Below.refl _ _ | assumption | refine Below.drew ?_ | refine below_drewN ?_ _ | refine Below.setCell ?_ (by first | (simp; done) | omega | (simp; omega)) _ | refine Below.alloc ?_ (by first | exact Nat.le_refl _ | omega | (simp; done) | (simp; omega)) _))); (case g2 => exact Hx1.out.bbelow (by repeat' (first | exact Below.refl _ _ | assumption | refine Below.drew ?_ | refine below_drewN ?_ _ | refine Below.setCell ?_ (by first | (simp; done) | omega | (simp; omega)) _ | refine Below.alloc ?_ (by first | exact Nat.le_refl _ | omega | (simp; done) | (simp; omega)) _))); (case g3 => exact Hp1.out.bbelow (by repeat' (first | exact Below.refl _ _ | assumption | refine Below.drew ?_ | refine below_drewN ?_ _ | refine Below.setCell ?_ (by first | (simp; done) | omega | (simp; omega)) _ | refine Below.alloc ?_ (by first | exact Nat.le_refl _ | omega | (simp; done) | (simp; omega)) _))); rw [Hq.out]; rintro e w3 ⟨rfl, hb3⟩; have hk3 : Below wg.heap.size wg w3 := (Below.refl _ _).drew.next hb3 (by simp); have q30 := (hk3.cell (p := ⟨ab, ao + k * 2, none⟩) hal4).trans z0; have q31 := (hk3.cell (p := ⟨gb, 0, none⟩) hgl).trans z1; have q32 := (hk3.cell (p := ⟨gb, 1, none⟩) hgl).trans z2))
                    have Hw3 := Lib.hid (Hbg.out.trans (hk3.mono (by omega)))
                    have hal5 : ab < w3.heap.size := by have := hk3.size; omega
                    have hgl5 : gb < w3.heap.size := by have := hk3.size; omega
                    have HO3 := Lib.hid (HOg.out.below wrR_stays hk3)
                    have Hx3 := Lib.hid (Hx1.out.bbelow hk3)
                    have Hp3 := Lib.hid (Hp1.out.bbelow hk3)
                    have Hv3 := Lib.hid (Hp2.out.bbelow hk3)
                    have Hk3 := Lib.hid hk3
                    clear hk3 hb3 z0 z1 z2
                    go_wp2
                    go_roundw
                    case rel => exact ⟨q + 1, O, co, by omega, by go_num, by rw [Hst.out], by rw [Hst.out]; exact HO3.out, (Hbel.out.next Hwg.out hbz2).trans (Hk3.out.mono (by omega)), Hw3.out⟩
                    case measure => simp [intOf]; omega
                  · have Hq := Lib.hid hs
                    have Hst := Lib.hid (ins2_put (a := fa) (xs := xs0 ++ upP x q) hs)
                    rw [List.append_assoc, ← Hup.out] at Hst
                    clear hs
                    go_region_held3 (fun w' => w'.cell? ⟨ab, ao + k * 2, none⟩ = some (.slice K x.1.length c1) ∧ w'.cell? ⟨gb, 0, none⟩ = some (.slice K0 p.1.length k0))
                      (first
                        | (with_reducible exact ⟨q30, q31⟩)
                        | go_keep)
                      ((go_at_call 18; (with_reducible refine (keyIn_ok _ B fb cb K x.1 c1 K0 p.1 k0 ?g1 ?g2 ?g3 Hfb8.out).mono ?_); (case g1 => exact (Hfb.out.below tenR_stays (Hbg.out.mono Hm2.out)).below tenR_stays (by repeat' (first | exact Below.refl _ _ | assumption | refine Below.drew ?_ | refine below_drewN ?_ _ | refine Below.setCell ?_ (by first | (simp; done) | omega | (simp; omega)) _ | refine Below.alloc ?_ (by first | exact Nat.le_refl _ | omega | (simp; done) | (simp; omega)) _))); (case g2 => exact Hx1.out.bbelow (by repeat' (first | exact Below.refl _ _ | assumption | refine Below.drew ?_ | refine below_drewN ?_ _ | refine Below.setCell ?_ (by first | (simp; done) | omega | (simp; omega)) _ | refine Below.alloc ?_ (by first | exact Nat.le_refl _ | omega | (simp; done) | (simp; omega)) _))); (case g3 => exact Hp1.out.bbelow (by repeat' (first | exact Below.refl _ _ | assumption | refine Below.drew ?_ | refine below_drewN ?_ _ | refine Below.setCell ?_ (by first | (simp; done) | omega | (simp; omega)) _ | refine Below.alloc ?_ (by first | exact Nat.le_refl _ | omega | (simp; done) | (simp; omega)) _))); rw [Hq.out]; rintro e w3 ⟨rfl, hb3⟩; have hk3 : Below wg.heap.size wg w3 := (Below.refl _ _).drew.next hb3 (by simp); have q30 := (hk3.cell (p := ⟨ab, ao + k * 2, none⟩) hal4).trans z0; have q31 := (hk3.cell (p := ⟨gb, 0, none⟩) hgl).trans z1; have q32 := (hk3.cell (p := ⟨gb, 1, none⟩) hgl).trans z2))
                    have Hw3 := Lib.hid (Hbg.out.trans (hk3.mono (by omega)))
                    have hal5 : ab < w3.heap.size := by have := hk3.size; omega
                    have hgl5 : gb < w3.heap.size := by have := hk3.size; omega
                    have HO3 := Lib.hid (HOg.out.below wrR_stays hk3)
                    have Hx3 := Lib.hid (Hx1.out.bbelow hk3)
                    have Hp3 := Lib.hid (Hp1.out.bbelow hk3)
                    have Hv3 := Lib.hid (Hp2.out.bbelow hk3)
                    have Hk3 := Lib.hid hk3
                    clear hk3 hb3 z0 z1 z2
                    go_wp2_with fail
                    go_region_held3 (fun w' => w'.cell? ⟨ab, ao + k * 2, none⟩ = some (.slice K x.1.length c1) ∧ w'.cell? ⟨gb, 0, none⟩ = some (.slice K0 p.1.length k0))
                      (first
                        | (with_reducible exact ⟨q40, q41⟩)
                        | (with_reducible exact ⟨q50, q51⟩)
                        | (with_reducible exact ⟨q70, q71⟩)
                        | go_keep)
                      (first
                        | (go_at_call_of 17 K; (with_reducible refine (joinedNil_ok _ K x.1 c1 ?ha hxb).mono ?_); (case ha => exact Hx3.out.bbelow (by repeat' (first | exact Below.refl _ _ | assumption | refine Below.drew ?_ | refine below_drewN ?_ _ | refine Below.setCell ?_ (by first | (simp; done) | omega | (simp; omega)) _ | refine Below.alloc ?_ (by first | exact Nat.le_refl _ | omega | (simp; done) | (simp; omega)) _))); rintro e w4 ⟨Ja4, ja4, rfl, hs4, hb4⟩; have hk4 : Below w3.heap.size w3 w4 := (Below.refl _ _).drew.next hb4 (by simp); have q40 := (hk4.cell (p := ⟨ab, ao + k * 2, none⟩) hal5).trans q30; have q41 := (hk4.cell (p := ⟨gb, 0, none⟩) hgl5).trans q31; have q42 := (hk4.cell (p := ⟨gb, 1, none⟩) hgl5).trans q32)
                        | (go_at_call_of 17 K0; (with_reducible refine (joinedNil_ok _ K0 p.1 k0 ?ha hpb1).mono ?_); (case ha => exact Hp3.out.bbelow (by repeat' (first | exact Below.refl _ _ | assumption | refine Below.drew ?_ | refine below_drewN ?_ _ | refine Below.setCell ?_ (by first | (simp; done) | omega | (simp; omega)) _ | refine Below.alloc ?_ (by first | exact Nat.le_refl _ | omega | (simp; done) | (simp; omega)) _))); rintro e w5 ⟨Ja5, ja5, rfl, hs5, hb5⟩; have hk5 : Below w3.heap.size w3 w5 := hk4.next hb5 hk4.size; have q50 := (hk5.cell (p := ⟨ab, ao + k * 2, none⟩) hal5).trans q30; have q51 := (hk5.cell (p := ⟨gb, 0, none⟩) hgl5).trans q31; have q52 := (hk5.cell (p := ⟨gb, 1, none⟩) hgl5).trans q32)
                        | (go_at_call 16; (refine (inserted_ok _ m O (ins2 fa fb (xs0 ++ upP x q)) co Ja4 Ja5 none ⟨x.1, p.1, true, []⟩ ja4 ja5 0 ?g0 ?g9 ?g1 ?g2 ?g3 hxb hpb1 (Nat.zero_le _) ?g8).mono ?_); (case g0 => (have := Hw3.out.size; have := hk5.size; omega)); (case g9 => exact HO3.out.below wrR_stays hk5); (case g1 => exact ((hs4.bbelow hb5).blo (by have := Hw3.out.size; simp; omega))); (case g2 => exact (hs5.blo (by have := Hw3.out.size; have := hk4.size; omega))); (case g3 => exact SL.nil); (case g8 => (have h8 := Hlen.out; omega)); rintro e w7 ⟨O7, c7, rfl, hs7, hb7⟩; have hk7 : Below w3.heap.size w3 w7 := hk5.next hb7 hk5.size; have q70 := (hk7.cell (p := ⟨ab, ao + k * 2, none⟩) hal5).trans q30; have q71 := (hk7.cell (p := ⟨gb, 0, none⟩) hgl5).trans q31; have q72 := (hk7.cell (p := ⟨gb, 1, none⟩) hgl5).trans q32))
                    go_wp2
                    go_roundw
                    case rel => exact ⟨q + 1, O7, c7, by omega, by go_num, by rw [Hst.out], by rw [Hst.out]; exact hs7, (Hbel.out.next Hwg.out hbz2).trans (Hk3.out.mono (by omega)) |>.trans (hk7.mono (by have := Hk3.out.size; omega)), Hw3.out.trans (hk7.mono (by have := Hw3.out.size; omega))⟩
                    case measure => simp [intOf]; omega
                · obtain rfl : q = x.2.length := by omega
                  have hf8 := Hfa8.out
                  go_wp2
                  go_roundw
                  case rel => exact ⟨k + 1, O, co, hlt, by go_num, by rw [Hnx.out], by rw [Hnx.out]; exact HO.out, Hbw.out⟩
                  case measure => simp [intOf]; have hlt9 := Hlt.out; omega
            · obtain rfl : k = fa.length := by omega
              go_wp2
              go_ret2
              rw [Hv.out]
              have hO := HO.out
              rw [flat_all, ins2_all] at hO ⊢
              exact ⟨O, co, rfl, hO.lo wrR_stays Hm.out, Hb2.out.trans (Hbel.out.mono Hm.out)⟩
    · have b2 : ((foldS l t).2 != 0) = true := by simpa using h2
      have Hv := Lib.hid (show changesS l f t = ([], (foldS l t).2) by unfold changesS; rw [hfa, if_neg (by simp), if_pos h2])
      clear h1 h2 hfa ffa
      go_enter Tryz.func6, Tryz.ntmps6
      go_wp2_with (first
        | (go_at_call 14; (with_reducible refine Hf.out.mono ?_); rintro e w1 ⟨A, ca, rfl, hs1, hb1⟩; have Hb1 := Lib.hid hb1; clear hs1 hb1)
        | (go_at_call 14; (with_reducible refine (Ht.out _ Hb1.out).mono ?_); rintro e w2 ⟨B, cb, rfl, hs2, hb2⟩))
      go_ret2
      rw [Hv.out]
      exact ⟨none, 0, rfl, SL.nil, Hb1.out.next hb2 Hb1.out.size⟩
  · have b1 : ((foldS l f).2 != 0) = true := by simpa using h1
    have Hv := Lib.hid (show changesS l f t = ([], (foldS l f).2) by unfold changesS; rw [if_pos h1])
    clear h1
    go_enter Tryz.func6, Tryz.ntmps6
    go_wp2_with (go_at_call 14; (with_reducible refine Hf.out.mono ?_); rintro e w1 ⟨A, ca, rfl, hs1, hb1⟩; have Hb1 := Lib.hid hb1; clear hs1 hb1)
    go_ret2
    rw [Hv.out]
    exact ⟨none, 0, rfl, SL.nil, Hb1.out⟩
end Go.Proofs.YthohkgggodhbcaaGreat
