/- Walks: txn.Clash and Clashes; the law TxnClashes. -/
import Derived.Test.YthhcdibimnifaaaTxnCheck
namespace Go.Proofs.Ythhcdibimnifaaa
open Go.RowKit
set_option linter.unusedVariables false
set_option linter.unusedSimpArgs false

def hitW (rs : List Wr) (x : Wr) : Bool := rs.any (fun r => touchS r x)
def clashC (t : Tx) (c : Cm) : Bool := decide (t.start < c.1) && c.2.any (hitW t.reads)
/-- What Clash and Clashes answer. -/
def clashS (t : Tx) (l : List Cm) : Bool × Int := if txnFaultS t ≠ 0 then (false, txnFaultS t) else (l.any (clashC t), 0)
theorem anyT_next {α : Type} {q : α → Bool} {l : List α} {k : Nat} (hk : k < l.length) (h : (l.take k).any q = false) (hq : q l[k] = false) : (l.take (k + 1)).any q = false := by
  rw [take_snoc l k hk, List.any_append, h]
  simp [hq]
theorem anyT_here {α : Type} {q : α → Bool} {l : List α} {k : Nat} (hk : k < l.length) (hq : q l[k] = true) : l.any q = true := List.any_eq_true.2 ⟨_, List.getElem_mem hk, hq⟩
theorem andT_next {α : Type} {d : Bool} {q : α → Bool} {l : List α} {k : Nat} (hk : k < l.length) (h : (d && (l.take k).any q) = false) (hq : (d && q l[k]) = false) : (d && (l.take (k + 1)).any q) = false := by
  cases d with
  | false => rfl
  | true =>
    simp only [Bool.true_and] at *
    exact anyT_next hk h hq
def RetBI (w : World) (r : Bool × Int) (e : Ending) (w' : World) : Prop := e = .returned (.tuple #[.bool r.1, .int .i64 r.2]) ∧ Below w.heap.size w w'
theorem cms_low {S : Nat → Prop} {w : World} {A : Option Addr} {l : List Cm} (h : Cs S w A l) : Cs All w A l := h.z cmR_stays
set_option maxRecDepth 100000 in
set_option maxHeartbeats 4000000 in
theorem clashes_ok (w : World) (A B : Option Addr) (t : Tx) (n m : Nat) (C : Option Addr) (l : List Cm) (cc : Nat) (ha : Ws All w A t.reads) (hb : Ws All w B t.writes) (hc : Cs All w C l) (hn : l.length ≤ big) :
    Calls Try.prog 68 #[.agg #[.int .i64 t.start, .slice A t.reads.length n, .slice B t.writes.length m], .slice C l.length cc] w (RetBI w (clashS t l)) := by
  unfold big at hn
  have Ha := Lib.hid ha
  have Hb := Lib.hid hb
  have Hc := Lib.hid hc
  clear ha hb hc
  have Hb0 := Lib.hid (show Below w.heap.size w (w.alloc (.cells #[.int .i64 t.start, .slice A t.reads.length n, .slice B t.writes.length m] 79)) from (Below.refl _ _).alloc (Nat.le_refl _) _)
  by_cases h1 : txnFaultS t = 0
  · have b1 : (txnFaultS t != 0) = false := by simp [h1]
    have Hv := Lib.hid (show clashS t l = (l.any (clashC t), 0) by unfold clashS; rw [if_neg (by simpa using h1)])
    have h20 : t.reads.length ≤ 20 := by
      unfold txnFaultS at h1
      split at h1
      · cases h1
      · split at h1
        · cases h1
        · omega
    clear h1
    go_enter Try.func68, Try.ntmps68
    go_wp2_with (go_at_call 65; refine (txnFault_ok _ A B t n m (Ha.out.below wrR_stays Hb0.out) (Hb.out.below wrR_stays Hb0.out)).mono ?_; rintro e w1 ⟨rfl, hb1⟩; have hx1 := (hb1.block w.heap.size (by simp)).trans (box_new w _ _); have hbw1 := Hb0.out.next hb1 (by simp); have hz1 : w.heap.size < w1.heap.size := (by have := hb1.size; simp at this; omega))
    have Hx1 := Lib.hid hx1
    have Hbw1 := Lib.hid hbw1
    clear hb1 hx1 hbw1 b1
    go_loopw [7] (fun i wr => ∃ k : Nat, k ≤ l.length ∧ i = .int .i64 k ∧ (l.take k).any (clashC t) = false ∧ Below w1.heap.size w1 wr) (fun i _ => l.length - (intOf i).toNat)
    case atStart => exact ⟨0, by omega, rfl, rfl, Below.refl _ _⟩
    case round =>
      obtain ⟨k, hk, rfl, hno, hbel⟩ := hrel
      have Hbel := Lib.hid hbel
      have hbz := hbel.size
      have Hno := Lib.hid hno
      have Hbw := Lib.hid (Hbw1.out.next hbel (by omega))
      clear hbel hno
      by_cases hlt : k < l.length
      · obtain ⟨g, off, D, dn, rfl, _, hal, hc1, hc2, hs, h80⟩ := cms_at (Hc.out.below cmR_stays Hbw.out) hlt
        have Hnext := Lib.hid (fun h => anyT_next (q := clashC t) hlt Hno.out h)
        have Hhere := Lib.hid (fun h => anyT_here (q := clashC t) hlt h)
        have Hcl := Lib.hid (show clashC t l[k] = (decide (t.start < l[k].1) && l[k].2.any (hitW t.reads)) from rfl)
        have Hs := Lib.hid (hs.z wrR_stays)
        generalize hcg : clashC t l[k] = cg at *
        generalize l[k] = c at *
        obtain ⟨ct, cw⟩ := c
        dsimp only at *
        have hi0 : (0 : Int) ≤ (k : Int) := by omega
        have hi1 : (k : Int) < (l.length : Int) := by omega
        have Hc1 := Lib.hid hc1
        have Hc2 := Lib.hid hc2
        generalize hd : decide (t.start < ct) = d at *
        have Hd := Lib.hid hd
        clear hs hc1 hc2 hcg hd
        obtain ⟨wa, rfl⟩ : ∃ wa : World, wa = wr := ⟨_, rfl⟩
        go_wp2
        go_loopw [8] (fun i wr => ∃ j : Nat, j ≤ cw.length ∧ i = .int .i64 j ∧ (d && (cw.take j).any (hitW t.reads)) = false ∧ Below wa.heap.size wa wr) (fun i _ => cw.length - (intOf i).toNat)
        case atStart => exact ⟨0, by omega, rfl, by cases d <;> rfl, Below.refl _ _⟩
        case round =>
          obtain ⟨j, hj, rfl, hno2, hbel2⟩ := hrel
          have Hbel2 := Lib.hid hbel2
          have hbz2 := hbel2.size
          have Hno2 := Lib.hid hno2
          have hc1 := (hbel2.cell (p := ⟨g, off + k * 2, none⟩) hal).trans Hc1.out
          have hc2 := (hbel2.cell (p := ⟨g, off + k * 2 + 1, none⟩) hal).trans Hc2.out
          clear hbel2 hno2
          by_cases hlt2 : j < cw.length
          · obtain ⟨g2, off2, A2, a2, B2, b2, C2, c2, hX2, _, hal2, hd1, hd2, hd3, hd4, ht1, ht2, ht3, _, _, _⟩ := wrs_at (Hs.out.below wrR_stays Hbel2.out) hlt2
            subst hX2
            have Hnext2 := Lib.hid (fun h => andT_next (d := d) (q := hitW t.reads) hlt2 Hno2.out h)
            have Hhere2 := Lib.hid (fun h => anyT_here (q := hitW t.reads) hlt2 h)
            have Hw := Lib.hid (show hitW t.reads cw[j] = t.reads.any (fun r => touchS r cw[j]) from rfl)
            generalize hwg : hitW t.reads cw[j] = wg at *
            generalize cw[j] = x at *
            have Ht1 := Lib.hid ht1.bz
            have Ht2 := Lib.hid ht2.bz
            have Ht3 := Lib.hid ht3.bz
            have Hd1 := Lib.hid hd1
            have Hd2 := Lib.hid hd2
            have Hd3 := Lib.hid hd3
            have Hd4 := Lib.hid hd4
            have hj0 : (0 : Int) ≤ (j : Int) := by omega
            have hj1 : (j : Int) < (cw.length : Int) := by omega
            clear hwg ht1 ht2 ht3 hd1 hd2 hd3 hd4
            obtain ⟨wb, rfl⟩ : ∃ wb : World, wb = wr := ⟨_, rfl⟩
            go_wp2
            clear hc1 hc2
            go_loopw [9] (fun i wr => ∃ r : Nat, r ≤ t.reads.length ∧ i = .int .i64 r ∧ (d && (t.reads.take r).any (fun r => touchS r x)) = false ∧ Below wb.heap.size wb wr) (fun i _ => t.reads.length - (intOf i).toNat)
            case atStart => exact ⟨0, by omega, rfl, by cases d <;> rfl, Below.refl _ _⟩
            case round =>
              obtain ⟨r, hr, rfl, hno3, hbel3⟩ := hrel
              have Hbel3 := Lib.hid hbel3
              have hbz3 := hbel3.size
              have Hno3 := Lib.hid hno3
              have Hbab := Lib.hid (Hbel2.out.next hbel3 hbz2)
              have hc1 := (Hbab.out.cell (p := ⟨g, off + k * 2, none⟩) hal).trans Hc1.out
              have hc2 := (Hbab.out.cell (p := ⟨g, off + k * 2 + 1, none⟩) hal).trans Hc2.out
              have hd1 := (hbel3.cell (p := ⟨g2, off2 + j * 4, none⟩) hal2).trans Hd1.out
              have hd2 := (hbel3.cell (p := ⟨g2, off2 + j * 4 + 1, none⟩) hal2).trans Hd2.out
              have hd3 := (hbel3.cell (p := ⟨g2, off2 + j * 4 + 2, none⟩) hal2).trans Hd3.out
              have hd4 := (hbel3.cell (p := ⟨g2, off2 + j * 4 + 3, none⟩) hal2).trans Hd4.out
              have Hb1r := Lib.hid (Hbel.out.next Hbab.out (by omega))
              obtain ⟨q0, q1, q2, _⟩ := box3 ((Hb1r.out.block _ hz1).trans Hx1.out)
              have Hbwr := Lib.hid (Hbw1.out.next Hb1r.out (by omega))
              clear hbel3 hno3
              by_cases hlt3 : r < t.reads.length
              · obtain ⟨g3, off3, A3, a3, B3, b3, C3, c3, hX3, _, hal3, he1, he2, he3, he4, hu1, hu2, hu3, _, _, _⟩ := wrs_at (Ha.out.below wrR_stays Hbwr.out) hlt3
                subst hX3
                have Hnext3 := Lib.hid (fun h => andT_next (d := d) (q := fun r => touchS r x) hlt3 Hno3.out h)
                have Hhere3 := Lib.hid (fun h => anyT_here (q := fun r => touchS r x) hlt3 h)
                try dsimp only at Hnext3 Hhere3
                generalize t.reads[r] = y at *
                have Hu1 := Lib.hid hu1.bz
                have Hu2 := Lib.hid hu2.bz
                have Hu3 := Lib.hid hu3.bz
                have hr0 : (0 : Int) ≤ (r : Int) := by omega
                have hr1 : (r : Int) < (t.reads.length : Int) := by omega
                clear hu1 hu2 hu3
                cases d with
                | false =>
                  have hdd := Hd.out
                  clear Hnext3 Hhere3
                  go_wp2_with fail
                  go_quiet (fail)
                  go_wp2
                  go_roundw
                  case rel => exact ⟨r + 1, by omega, by go_num, rfl, below_drewN Hbel3.out _⟩
                  case measure => simp [intOf]; omega
                | true =>
                  have hdd := Hd.out
                  generalize hq : touchS y x = q at *
                  have Hq := Lib.hid hq
                  clear hq
                  cases q with
                  | true =>
                    have Hany := Lib.hid (show l.any (clashC t) = true from Hhere.out (by rw [Hcl.out, Hhere2.out (by rw [Hw.out, Hhere3.out rfl])]; rfl))
                    clear Hnext3 Hhere3
                    go_wp2_with fail
                    go_region_held3 (fun w' => w'.cell? ⟨g, off + k * 2, none⟩ = some (.int .i64 ct) ∧ w'.cell? ⟨g, off + k * 2 + 1, none⟩ = some (.slice (some ⟨g2, off2, none⟩) cw.length dn) ∧ w'.cell? ⟨w.heap.size, 0, none⟩ = some (.int .i64 t.start) ∧ w'.cell? ⟨w.heap.size, 1, none⟩ = some (.slice (some ⟨g3, off3, none⟩) t.reads.length n) ∧ w'.cell? ⟨g2, off2 + j * 4, none⟩ = some (.slice A2 x.name.length a2) ∧ w'.cell? ⟨g2, off2 + j * 4 + 1, none⟩ = some (.slice B2 x.key.length b2) ∧ w'.cell? ⟨g2, off2 + j * 4 + 2, none⟩ = some (.bool x.flag) ∧ w'.cell? ⟨g2, off2 + j * 4 + 3, none⟩ = some (.slice C2 x.value.length c2) ∧ w'.cell? ⟨g3, off3 + r * 4, none⟩ = some (.slice A3 y.name.length a3) ∧ w'.cell? ⟨g3, off3 + r * 4 + 1, none⟩ = some (.slice B3 y.key.length b3) ∧ w'.cell? ⟨g3, off3 + r * 4 + 2, none⟩ = some (.bool y.flag) ∧ w'.cell? ⟨g3, off3 + r * 4 + 3, none⟩ = some (.slice C3 y.value.length c3))
                      (first
                        | go_keep
                        | (go_split_ands; refine ⟨?_, ?_, ?_, ?_, ?_, ?_, ?_, ?_, ?_, ?_, ?_, ?_⟩ <;> exact (hbw2.cell (by simp; omega)).trans (by assumption)))
                      ((go_at_call 136; refine (refTouched_ok _ A3 B3 C3 A2 B2 C2 y x a3 b3 c3 a2 b2 c2 (Hu1.out.bsame (by repeat' (first | exact Same.refl _ _ | assumption | refine Same.drew ?_ | refine Same.drewN ?_ _ | refine Same.alloc ?_ _ | refine Same.setCell ?_ (fun hq => by simp only [From] at hq; first | omega | (simp at hq; done) | (simp at hq; omega)) _))) (Hu2.out.bsame (by repeat' (first | exact Same.refl _ _ | assumption | refine Same.drew ?_ | refine Same.drewN ?_ _ | refine Same.alloc ?_ _ | refine Same.setCell ?_ (fun hq => by simp only [From] at hq; first | omega | (simp at hq; done) | (simp at hq; omega)) _))) (Hu3.out.bsame (by repeat' (first | exact Same.refl _ _ | assumption | refine Same.drew ?_ | refine Same.drewN ?_ _ | refine Same.alloc ?_ _ | refine Same.setCell ?_ (fun hq => by simp only [From] at hq; first | omega | (simp at hq; done) | (simp at hq; omega)) _))) ((Ht1.out.bbelow Hbel3.out).bsame (by repeat' (first | exact Same.refl _ _ | assumption | refine Same.drew ?_ | refine Same.drewN ?_ _ | refine Same.alloc ?_ _ | refine Same.setCell ?_ (fun hq => by simp only [From] at hq; first | omega | (simp at hq; done) | (simp at hq; omega)) _))) ((Ht2.out.bbelow Hbel3.out).bsame (by repeat' (first | exact Same.refl _ _ | assumption | refine Same.drew ?_ | refine Same.drewN ?_ _ | refine Same.alloc ?_ _ | refine Same.setCell ?_ (fun hq => by simp only [From] at hq; first | omega | (simp at hq; done) | (simp at hq; omega)) _))) ((Ht3.out.bbelow Hbel3.out).bsame (by repeat' (first | exact Same.refl _ _ | assumption | refine Same.drew ?_ | refine Same.drewN ?_ _ | refine Same.alloc ?_ _ | refine Same.setCell ?_ (fun hq => by simp only [From] at hq; first | omega | (simp at hq; done) | (simp at hq; omega)) _)))).mono ?_; rintro e w2 ⟨rfl, hbw2⟩; rw [Hq.out]))
                    go_wp2
                    go_ret2
                    rw [Hv.out, Hany.out]
                    exact ⟨rfl, Hbwr.out.drew.next hbw2 (by simp; omega)⟩
                  | false =>
                    have Hn3 := Lib.hid (Hnext3.out rfl)
                    clear Hnext3 Hhere3
                    go_wp2_with fail
                    go_region_held3 (fun w' => w'.cell? ⟨g, off + k * 2, none⟩ = some (.int .i64 ct) ∧ w'.cell? ⟨g, off + k * 2 + 1, none⟩ = some (.slice (some ⟨g2, off2, none⟩) cw.length dn) ∧ w'.cell? ⟨w.heap.size, 0, none⟩ = some (.int .i64 t.start) ∧ w'.cell? ⟨w.heap.size, 1, none⟩ = some (.slice (some ⟨g3, off3, none⟩) t.reads.length n) ∧ w'.cell? ⟨g2, off2 + j * 4, none⟩ = some (.slice A2 x.name.length a2) ∧ w'.cell? ⟨g2, off2 + j * 4 + 1, none⟩ = some (.slice B2 x.key.length b2) ∧ w'.cell? ⟨g2, off2 + j * 4 + 2, none⟩ = some (.bool x.flag) ∧ w'.cell? ⟨g2, off2 + j * 4 + 3, none⟩ = some (.slice C2 x.value.length c2) ∧ w'.cell? ⟨g3, off3 + r * 4, none⟩ = some (.slice A3 y.name.length a3) ∧ w'.cell? ⟨g3, off3 + r * 4 + 1, none⟩ = some (.slice B3 y.key.length b3) ∧ w'.cell? ⟨g3, off3 + r * 4 + 2, none⟩ = some (.bool y.flag) ∧ w'.cell? ⟨g3, off3 + r * 4 + 3, none⟩ = some (.slice C3 y.value.length c3))
                      (first
                        | go_keep
                        | (go_split_ands; refine ⟨?_, ?_, ?_, ?_, ?_, ?_, ?_, ?_, ?_, ?_, ?_, ?_⟩ <;> exact (hbw2.cell (by simp; omega)).trans (by assumption)))
                      ((go_at_call 136; refine (refTouched_ok _ A3 B3 C3 A2 B2 C2 y x a3 b3 c3 a2 b2 c2 (Hu1.out.bsame (by repeat' (first | exact Same.refl _ _ | assumption | refine Same.drew ?_ | refine Same.drewN ?_ _ | refine Same.alloc ?_ _ | refine Same.setCell ?_ (fun hq => by simp only [From] at hq; first | omega | (simp at hq; done) | (simp at hq; omega)) _))) (Hu2.out.bsame (by repeat' (first | exact Same.refl _ _ | assumption | refine Same.drew ?_ | refine Same.drewN ?_ _ | refine Same.alloc ?_ _ | refine Same.setCell ?_ (fun hq => by simp only [From] at hq; first | omega | (simp at hq; done) | (simp at hq; omega)) _))) (Hu3.out.bsame (by repeat' (first | exact Same.refl _ _ | assumption | refine Same.drew ?_ | refine Same.drewN ?_ _ | refine Same.alloc ?_ _ | refine Same.setCell ?_ (fun hq => by simp only [From] at hq; first | omega | (simp at hq; done) | (simp at hq; omega)) _))) ((Ht1.out.bbelow Hbel3.out).bsame (by repeat' (first | exact Same.refl _ _ | assumption | refine Same.drew ?_ | refine Same.drewN ?_ _ | refine Same.alloc ?_ _ | refine Same.setCell ?_ (fun hq => by simp only [From] at hq; first | omega | (simp at hq; done) | (simp at hq; omega)) _))) ((Ht2.out.bbelow Hbel3.out).bsame (by repeat' (first | exact Same.refl _ _ | assumption | refine Same.drew ?_ | refine Same.drewN ?_ _ | refine Same.alloc ?_ _ | refine Same.setCell ?_ (fun hq => by simp only [From] at hq; first | omega | (simp at hq; done) | (simp at hq; omega)) _))) ((Ht3.out.bbelow Hbel3.out).bsame (by repeat' (first | exact Same.refl _ _ | assumption | refine Same.drew ?_ | refine Same.drewN ?_ _ | refine Same.alloc ?_ _ | refine Same.setCell ?_ (fun hq => by simp only [From] at hq; first | omega | (simp at hq; done) | (simp at hq; omega)) _)))).mono ?_; rintro e w2 ⟨rfl, hbw2⟩; rw [Hq.out]))
                    go_wp2
                    go_roundw
                    case rel => exact ⟨r + 1, by omega, by go_num, Hn3.out, Hbel3.out.drew.next hbw2 (by simp; omega)⟩
                    case measure => simp [intOf]; omega
              · obtain rfl : r = t.reads.length := by omega
                have h3 := Hno3.out
                rw [List.take_length] at h3
                have Hn2 := Lib.hid (Hnext2.out (by rw [Hw.out]; exact h3))
                clear h3
                go_wp2
                go_roundw
                case rel => exact ⟨j + 1, by omega, by go_num, Hn2.out, Hbab.out⟩
                case measure => simp [intOf]; omega
          · obtain rfl : j = cw.length := by omega
            have h2 := Hno2.out
            rw [List.take_length] at h2
            have Hn1 := Lib.hid (Hnext.out (by rw [Hcl.out]; exact h2))
            clear h2
            go_wp2
            go_roundw
            case rel => exact ⟨k + 1, by omega, by go_num, Hn1.out, Hbel.out.next Hbel2.out (by omega)⟩
            case measure => simp [intOf]; omega
      · obtain rfl : k = l.length := by omega
        have h := Hno.out
        rw [List.take_length] at h
        have Hf := Lib.hid h
        clear h
        go_wp2
        go_ret2
        rw [Hv.out, Hf.out]
        exact ⟨rfl, Hbw.out⟩
  · have b1 : (txnFaultS t != 0) = true := by simpa using h1
    have Hv := Lib.hid (show clashS t l = (false, txnFaultS t) by unfold clashS; rw [if_pos h1])
    clear h1
    go_enter Try.func68, Try.ntmps68
    go_wp2_with (go_at_call 65; refine (txnFault_ok _ A B t n m (Ha.out.below wrR_stays Hb0.out) (Hb.out.below wrR_stays Hb0.out)).mono ?_; rintro e w1 ⟨rfl, hb1⟩; have hbw1 := Hb0.out.next hb1 (by simp))
    go_ret2
    rw [Hv.out]
    exact ⟨rfl, hbw1⟩
end Go.Proofs.Ythhcdibimnifaaa
