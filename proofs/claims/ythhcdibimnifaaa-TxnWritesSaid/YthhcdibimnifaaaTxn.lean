/- Transactions: words for memory; what is refused of one, by the references. -/
import Derived.Test.YthhcdibimnifaaaRd
namespace Go.Proofs.Ythhcdibimnifaaa
open Go.RowKit
set_option linter.unusedVariables false
set_option linter.unusedSimpArgs false

structure Tx where
  start : Int
  reads : List Wr
  writes : List Wr
/-- The three cells of a transaction. -/
def TxR (S : Nat → Prop) (w : World) (cs : List Value) (t : Tx) : Prop :=
  ∃ A n B m, cs = [.int .i64 t.start, .slice A t.reads.length n, .slice B t.writes.length m] ∧ Ws S w A t.reads ∧ Ws S w B t.writes ∧ t.reads.length * 80 ≤ 140737488355328 ∧ t.writes.length * 80 ≤ 140737488355328 ∧ t.reads.length ≤ n ∧ t.writes.length ≤ m
theorem box3 {w : World} {g : Nat} {t : TypeId} {a b c : Value} (h : w.heap[g]? = some (.cells #[a, b, c] t (0, 0))) :
    w.cell? ⟨g, 0, none⟩ = some a ∧ w.cell? ⟨g, 1, none⟩ = some b ∧ w.cell? ⟨g, 2, none⟩ = some c ∧ w.frozen? ⟨g, 0, none⟩ = false ∧ w.frozen? ⟨g, 1, none⟩ = false ∧ w.frozen? ⟨g, 2, none⟩ = false :=
  ⟨box_cell (cs := [a, b, c]) h 0, box_cell (cs := [a, b, c]) h 1, box_cell (cs := [a, b, c]) h 2, box_frozen (cs := [a, b, c]) h 0, box_frozen (cs := [a, b, c]) h 1, box_frozen (cs := [a, b, c]) h 2⟩
/-- A fault, or that one of the first j is the same. -/
def stepE (q : Wr → Bool) (f : Int) (l : List Wr) (j : Nat) : Int := if f ≠ 0 then f else if (l.take j).any q then 3 else 0
theorem stepE_zero (q : Wr → Bool) (f : Int) (l : List Wr) : stepE q f l 0 = f := by
  unfold stepE
  by_cases h : f = 0 <;> simp [h]
theorem stepE_hit {q : Wr → Bool} {f : Int} {l : List Wr} {j : Nat} (h : stepE q f l j = 0) (hj : j < l.length) (hq : q l[j] = true) : stepE q f l (j + 1) = 3 := by
  unfold stepE at h ⊢
  by_cases hf : f = 0
  · simp only [hf, ne_eq, not_true_eq_false, if_false] at h ⊢
    rw [take_snoc l j hj, List.any_append]
    simp [hq]
  · simp [hf] at h
theorem stepE_miss {q : Wr → Bool} {f : Int} {l : List Wr} {j : Nat} (h : stepE q f l j = 0) (hj : j < l.length) (hq : q l[j] = false) : stepE q f l (j + 1) = 0 := by
  unfold stepE at h ⊢
  by_cases hf : f = 0
  · simp only [hf, ne_eq, not_true_eq_false, if_false] at h ⊢
    rw [take_snoc l j hj, List.any_append]
    by_cases ha : (l.take j).any q = true
    · simp [ha] at h
    · simp [hq, Bool.not_eq_true _ ▸ ha]
  · simp [hf] at h
theorem stepE_end {q : Wr → Bool} {f : Int} {l : List Wr} {j k : Nat} (hj : j ≤ k) (h : stepE q f l j ≠ 0) : stepE q f l k = stepE q f l j := by
  unfold stepE at h ⊢
  by_cases hf : f = 0
  · simp only [hf, ne_eq, not_true_eq_false, if_false] at h ⊢
    by_cases ha : (l.take j).any q = true
    · have hk : (l.take k).any q = true := by
        rw [List.any_eq_true] at ha ⊢
        obtain ⟨x, hx, hq⟩ := ha
        exact ⟨x, (List.take_sublist_take_left hj).subset hx, hq⟩
      rw [if_pos ha, if_pos hk]
    · rw [if_neg ha] at h
      exact absurd rfl h
  · simp [hf]
/-- What is refused at a place of a list in which none may come twice. -/
def placeAt (fault : Wr → Int) (same : Wr → Wr → Bool) (l : List Wr) (i : Nat) : Int := stepE (fun y => same y (l.getD i ⟨[], [], false, []⟩)) (fault (l.getD i ⟨[], [], false, []⟩)) l i
theorem placeAt_eq (fault : Wr → Int) (same : Wr → Wr → Bool) {l : List Wr} {i : Nat} (h : i < l.length) : placeAt fault same l i = stepE (fun y => same y l[i]) (fault l[i]) l i := by
  simp [placeAt, h]
def readsFaultS (l : List Wr) : Int := firstBad (placeAt readFaultS sameRd l) l.length 0
def writesFaultS (l : List Wr) : Int := firstBad (placeAt writeFaultS samePl l) l.length 0
/-- What TxnFault and txn.Check answer. -/
def txnFaultS (t : Tx) : Int := if ¬ (0 ≤ t.start ∧ t.start ≤ 1048576) then 2 else if 20 < t.reads.length ∨ 10 < t.writes.length then 1 else if readsFaultS t.reads ≠ 0 then readsFaultS t.reads else writesFaultS t.writes

set_option maxRecDepth 100000 in
set_option maxHeartbeats 4000000 in
theorem txnFault_ok (w : World) (A B : Option Addr) (t : Tx) (n m : Nat) (ha : Ws All w A t.reads) (hb : Ws All w B t.writes) :
    Calls Try.prog 65 #[.agg #[.int .i64 t.start, .slice A t.reads.length n, .slice B t.writes.length m]] w (RetV w (.int .i64 (txnFaultS t))) := by
  have Ha := Lib.hid ha
  have Hb := Lib.hid hb
  clear ha hb
  by_cases h1 : 0 ≤ t.start ∧ t.start ≤ 1048576
  · have b1 : (decide ((0 : Int) ≤ t.start) && decide (t.start ≤ 1048576)) = true := by simp [h1]
    by_cases h2 : 20 < t.reads.length
    · have Hv := Lib.hid (show txnFaultS t = 1 by unfold txnFaultS; rw [if_neg (by simpa using h1), if_pos (.inl h2)])
      have b2 : decide ((20 : Int) < (t.reads.length : Int)) = true := by rw [decide_eq_true_eq]; omega
      clear h1
      go_enter Try.func65, Try.ntmps65
      go_wp2_with (go_at_call 114; refine (in_ok _ _ _ _).mono ?_; rintro e w' ⟨rfl, rfl⟩)
      go_ret
      exact ⟨ret_int (by rw [Hv.out]), by repeat' (first | exact Below.refl _ _ | assumption | refine Below.drew ?_ | refine below_drewN ?_ _ | refine Below.setCell ?_ (by first | (simp; done) | omega | (simp; omega)) _ | refine Below.alloc ?_ (by first | exact Nat.le_refl _ | omega | (simp; done) | (simp; omega)) _)⟩
    · have b2 : decide ((20 : Int) < (t.reads.length : Int)) = false := by rw [decide_eq_false_iff_not]; omega
      by_cases h3 : 10 < t.writes.length
      · have Hv := Lib.hid (show txnFaultS t = 1 by unfold txnFaultS; rw [if_neg (by simpa using h1), if_pos (.inr h3)])
        have b3 : decide ((10 : Int) < (t.writes.length : Int)) = true := by rw [decide_eq_true_eq]; omega
        clear h1
        go_enter Try.func65, Try.ntmps65
        go_wp2_with (go_at_call 114; refine (in_ok _ _ _ _).mono ?_; rintro e w' ⟨rfl, rfl⟩)
        go_ret
        exact ⟨ret_int (by rw [Hv.out]), by repeat' (first | exact Below.refl _ _ | assumption | refine Below.drew ?_ | refine below_drewN ?_ _ | refine Below.setCell ?_ (by first | (simp; done) | omega | (simp; omega)) _ | refine Below.alloc ?_ (by first | exact Nat.le_refl _ | omega | (simp; done) | (simp; omega)) _)⟩
      · have b3 : decide ((10 : Int) < (t.writes.length : Int)) = false := by rw [decide_eq_false_iff_not]; omega
        have Hbad := Lib.hid (show ∀ e : Int, e ≠ 0 → readsFaultS t.reads = e → txnFaultS t = e from fun e h4 h5 => by unfold txnFaultS; rw [if_neg (by simpa using h1), if_neg (by omega), if_pos (by rw [h5]; exact h4), h5])
        have Hgood := Lib.hid (show readsFaultS t.reads = 0 → txnFaultS t = writesFaultS t.writes from fun h5 => by unfold txnFaultS; rw [if_neg (by simpa using h1), if_neg (by omega), if_neg (by rw [h5]; decide)])
        have Hbx := Lib.hid (box_new w #[.int .i64 t.start, .slice A t.reads.length n, .slice B t.writes.length m] 79)
        have Hb0 := Lib.hid (show Below w.heap.size w (w.alloc (.cells #[.int .i64 t.start, .slice A t.reads.length n, .slice B t.writes.length m] 79)) from (Below.refl _ _).alloc (Nat.le_refl _) _)
        have Hz0 := Lib.hid (show w.heap.size < (w.alloc (.cells #[.int .i64 t.start, .slice A t.reads.length n, .slice B t.writes.length m] 79)).heap.size by simp)
        have h20 : t.reads.length ≤ 20 := by omega
        have h10 : t.writes.length ≤ 10 := by omega
        clear h1
        go_enter Try.func65, Try.ntmps65
        go_wp2_with (go_at_call 114; refine (in_ok _ _ _ _).mono ?_; rintro e w' ⟨rfl, rfl⟩)
        clear b1 b2 b3
        generalize (w.alloc (.cells #[.int .i64 t.start, .slice A t.reads.length n, .slice B t.writes.length m] 79)) = w0 at *
        go_loopw [3] (fun i wr => ∃ k : Nat, k ≤ t.reads.length ∧ i = .int .i64 k ∧ firstBad (placeAt readFaultS sameRd t.reads) (t.reads.length - k) k = readsFaultS t.reads ∧ Below w0.heap.size w0 wr) (fun i _ => t.reads.length - (intOf i).toNat)
        case atStart => exact ⟨0, by omega, rfl, rfl, Below.refl _ _⟩
        case round =>
          obtain ⟨k, hk, rfl, hval, hbel⟩ := hrel
          have Hbel := Lib.hid hbel
          have Hval := Lib.hid hval
          have hbz := hbel.size
          have hz0 := Hz0.out
          have Hbxr := Lib.hid ((hbel.block _ Hz0.out).trans Hbx.out)
          obtain ⟨g0, g1, g2, _⟩ := box3 Hbxr.out
          have Hb1 := Lib.hid (Hb0.out.next hbel (by omega))
          clear hbel hval
          by_cases hlt : k < t.reads.length
          · have Hstep := Lib.hid (firstBad_at (placeAt readFaultS sameRd t.reads) hlt)
            have Hpl := Lib.hid (placeAt_eq readFaultS sameRd hlt)
            obtain ⟨g, off, A1, a1, B1, b1, C1, c1, hX, _, hal, hc1, hc2, hc3, hc4, hs1, hs2, hs3, _, _, _⟩ := wrs_at (Ha.out.below wrR_stays Hb1.out) hlt
            have Hs1 := Lib.hid hs1.bz
            have Hs2 := Lib.hid hs2.bz
            have Hs3 := Lib.hid hs3.bz
            have Hcx := Lib.hid (And.intro hc1 (And.intro hc2 (And.intro hc3 hc4)))
            have HX := Lib.hid hX
            generalize t.reads[k] = x at *
            generalize hfv : readFaultS x = fv at *
            have Hfv := Lib.hid hfv
            rw [hX] at g1
            clear hs1 hs2 hs3 hX hfv
            go_wp2_with (go_at_call 130; refine (readFault_ok _ A1 B1 C1 x a1 b1 c1).mono ?_; rintro e w1 ⟨rfl, hbw1⟩; rw [Hfv.out])
            have Hbw1 := Lib.hid hbw1
            have hzw1 := hbw1.size
            clear hbw1 hc1 hc2 hc3 hc4 g0 g1 g2
            obtain ⟨wm, rfl⟩ : ∃ wm : World, wm = wr := ⟨_, rfl⟩
            go_loopw [4, 5] (fun e i wr => ∃ j : Nat, j ≤ k ∧ i = .int .i64 j ∧ e = .int .i64 (stepE (fun y => sameRd y x) fv t.reads j) ∧ Below w1.heap.size w1 wr) (fun _ i _ => k - (intOf i).toNat)
            case atStart => exact ⟨0, by omega, rfl, by rw [stepE_zero], Below.refl _ _⟩
            case round =>
              obtain ⟨j, hj, rfl, rfl, hbel2⟩ := hrel
              have Hbel2 := Lib.hid hbel2
              have hbz2 := hbel2.size
              have Hbm := Lib.hid (Hbw1.out.next hbel2 hzw1)
              obtain ⟨q0, q1, q2, _⟩ := box3 ((Hbm.out.block _ (by omega)).trans Hbxr.out)
              have Hb2 := Lib.hid (Hb1.out.next Hbm.out (by omega))
              clear hbel2
              generalize hE : stepE (fun y => sameRd y x) fv t.reads j = E at *
              have HE := Lib.hid hE
              clear hE
              by_cases hE0 : E = 0
              · by_cases hjk : j < k
                · subst hE0
                  have hjl : j < t.reads.length := by omega
                  obtain ⟨gy, offy, A2, a2, B2, b2, C2, c2, hX2, _, hal2, hd1, hd2, hd3, hd4, ht1, ht2, ht3, _, _, _⟩ := wrs_at (Ha.out.below wrR_stays Hb2.out) hjl
                  have hge : (⟨gy, offy, none⟩ : Addr) = ⟨g, off, none⟩ := Option.some.inj (hX2.symm.trans HX.out)
                  obtain ⟨rfl, rfl⟩ : gy = g ∧ offy = off := by cases hge; exact ⟨rfl, rfl⟩
                  have hc1 := (Hbm.out.cell (p := ⟨gy, offy + k * 4, none⟩) hal).trans Hcx.out.1
                  have hc2 := (Hbm.out.cell (p := ⟨gy, offy + k * 4 + 1, none⟩) hal).trans Hcx.out.2.1
                  have hc3 := (Hbm.out.cell (p := ⟨gy, offy + k * 4 + 2, none⟩) hal).trans Hcx.out.2.2.1
                  have hc4 := (Hbm.out.cell (p := ⟨gy, offy + k * 4 + 3, none⟩) hal).trans Hcx.out.2.2.2
                  have Hhit := Lib.hid (fun h => stepE_hit (q := fun y => sameRd y x) HE.out hjl h)
                  have Hmiss := Lib.hid (fun h => stepE_miss (q := fun y => sameRd y x) HE.out hjl h)
                  generalize t.reads[j] = y at *
                  have hi0 : (0 : Int) ≤ (j : Int) := by omega
                  have hi1 : (j : Int) < (t.reads.length : Int) := by omega
                  have hi2 : (0 : Int) ≤ (k : Int) := by omega
                  have hi3 : (k : Int) < (t.reads.length : Int) := by omega
                  have hi4 : decide ((j : Int) < (k : Int)) = true := by rw [decide_eq_true_eq]; omega
                  rw [hX2] at q1
                  have Ht1 := Lib.hid ht1.bz
                  have Ht2 := Lib.hid ht2.bz
                  have Ht3 := Lib.hid ht3.bz
                  clear hX2 hge ht1 ht2 ht3 HE
                  rcases Bool.eq_false_or_eq_true (sameRd y x) with hq | hq
                  · have Hq := Lib.hid (Hhit.out hq)
                    clear Hhit Hmiss
                    go_wp2_with fail
                    go_region_held3 (fun w' => w'.cell? ⟨w.heap.size, 1, none⟩ = some (.slice (some ⟨gy, offy, none⟩) t.reads.length n) ∧ w'.cell? ⟨gy, offy + k * 4, none⟩ = some (.slice A1 x.name.length a1) ∧ w'.cell? ⟨gy, offy + k * 4 + 1, none⟩ = some (.slice B1 x.key.length b1) ∧ w'.cell? ⟨gy, offy + k * 4 + 2, none⟩ = some (.bool x.flag) ∧ w'.cell? ⟨gy, offy + k * 4 + 3, none⟩ = some (.slice C1 x.value.length c1) ∧ w'.cell? ⟨gy, offy + j * 4, none⟩ = some (.slice A2 y.name.length a2) ∧ w'.cell? ⟨gy, offy + j * 4 + 1, none⟩ = some (.slice B2 y.key.length b2) ∧ w'.cell? ⟨gy, offy + j * 4 + 2, none⟩ = some (.bool y.flag) ∧ w'.cell? ⟨gy, offy + j * 4 + 3, none⟩ = some (.slice C2 y.value.length c2))
                      (first
                        | go_keep
                        | (go_split_ands; refine ⟨?_, ?_, ?_, ?_, ?_, ?_, ?_, ?_, ?_⟩ <;> exact (hbw2.cell (by simp; omega)).trans (by assumption)))
                      ((go_at_call 131; refine (refSameRead_ok _ A2 B2 C2 A1 B1 C1 y x a2 b2 c2 a1 b1 c1 (Ht1.out.bsame (by repeat' (first | exact Same.refl _ _ | assumption | refine Same.drew ?_ | refine Same.drewN ?_ _ | refine Same.alloc ?_ _ | refine Same.setCell ?_ (fun hq => by simp only [From] at hq; first | omega | (simp at hq; done) | (simp at hq; omega)) _))) (Ht2.out.bsame (by repeat' (first | exact Same.refl _ _ | assumption | refine Same.drew ?_ | refine Same.drewN ?_ _ | refine Same.alloc ?_ _ | refine Same.setCell ?_ (fun hq => by simp only [From] at hq; first | omega | (simp at hq; done) | (simp at hq; omega)) _))) (Ht3.out.bsame (by repeat' (first | exact Same.refl _ _ | assumption | refine Same.drew ?_ | refine Same.drewN ?_ _ | refine Same.alloc ?_ _ | refine Same.setCell ?_ (fun hq => by simp only [From] at hq; first | omega | (simp at hq; done) | (simp at hq; omega)) _))) ((Hs1.out.bbelow Hbm.out).bsame (by repeat' (first | exact Same.refl _ _ | assumption | refine Same.drew ?_ | refine Same.drewN ?_ _ | refine Same.alloc ?_ _ | refine Same.setCell ?_ (fun hq => by simp only [From] at hq; first | omega | (simp at hq; done) | (simp at hq; omega)) _))) ((Hs2.out.bbelow Hbm.out).bsame (by repeat' (first | exact Same.refl _ _ | assumption | refine Same.drew ?_ | refine Same.drewN ?_ _ | refine Same.alloc ?_ _ | refine Same.setCell ?_ (fun hq => by simp only [From] at hq; first | omega | (simp at hq; done) | (simp at hq; omega)) _))) ((Hs3.out.bbelow Hbm.out).bsame (by repeat' (first | exact Same.refl _ _ | assumption | refine Same.drew ?_ | refine Same.drewN ?_ _ | refine Same.alloc ?_ _ | refine Same.setCell ?_ (fun hq => by simp only [From] at hq; first | omega | (simp at hq; done) | (simp at hq; omega)) _)))).mono ?_; rintro e w2 ⟨rfl, hbw2⟩; rw [hq]))
                    go_wp2
                    go_roundw
                    case rel => exact ⟨j + 1, by omega, by go_num, by rw [Hq.out], (Hbel2.out.drew.next hbw2 (by simp; omega))⟩
                    case measure => simp [intOf]; omega
                  · have Hq := Lib.hid (Hmiss.out hq)
                    clear Hhit Hmiss
                    go_wp2_with fail
                    go_region_held3 (fun w' => w'.cell? ⟨w.heap.size, 1, none⟩ = some (.slice (some ⟨gy, offy, none⟩) t.reads.length n) ∧ w'.cell? ⟨gy, offy + k * 4, none⟩ = some (.slice A1 x.name.length a1) ∧ w'.cell? ⟨gy, offy + k * 4 + 1, none⟩ = some (.slice B1 x.key.length b1) ∧ w'.cell? ⟨gy, offy + k * 4 + 2, none⟩ = some (.bool x.flag) ∧ w'.cell? ⟨gy, offy + k * 4 + 3, none⟩ = some (.slice C1 x.value.length c1) ∧ w'.cell? ⟨gy, offy + j * 4, none⟩ = some (.slice A2 y.name.length a2) ∧ w'.cell? ⟨gy, offy + j * 4 + 1, none⟩ = some (.slice B2 y.key.length b2) ∧ w'.cell? ⟨gy, offy + j * 4 + 2, none⟩ = some (.bool y.flag) ∧ w'.cell? ⟨gy, offy + j * 4 + 3, none⟩ = some (.slice C2 y.value.length c2))
                      (first
                        | go_keep
                        | (go_split_ands; refine ⟨?_, ?_, ?_, ?_, ?_, ?_, ?_, ?_, ?_⟩ <;> exact (hbw2.cell (by simp; omega)).trans (by assumption)))
                      ((go_at_call 131; refine (refSameRead_ok _ A2 B2 C2 A1 B1 C1 y x a2 b2 c2 a1 b1 c1 (Ht1.out.bsame (by repeat' (first | exact Same.refl _ _ | assumption | refine Same.drew ?_ | refine Same.drewN ?_ _ | refine Same.alloc ?_ _ | refine Same.setCell ?_ (fun hq => by simp only [From] at hq; first | omega | (simp at hq; done) | (simp at hq; omega)) _))) (Ht2.out.bsame (by repeat' (first | exact Same.refl _ _ | assumption | refine Same.drew ?_ | refine Same.drewN ?_ _ | refine Same.alloc ?_ _ | refine Same.setCell ?_ (fun hq => by simp only [From] at hq; first | omega | (simp at hq; done) | (simp at hq; omega)) _))) (Ht3.out.bsame (by repeat' (first | exact Same.refl _ _ | assumption | refine Same.drew ?_ | refine Same.drewN ?_ _ | refine Same.alloc ?_ _ | refine Same.setCell ?_ (fun hq => by simp only [From] at hq; first | omega | (simp at hq; done) | (simp at hq; omega)) _))) ((Hs1.out.bbelow Hbm.out).bsame (by repeat' (first | exact Same.refl _ _ | assumption | refine Same.drew ?_ | refine Same.drewN ?_ _ | refine Same.alloc ?_ _ | refine Same.setCell ?_ (fun hq => by simp only [From] at hq; first | omega | (simp at hq; done) | (simp at hq; omega)) _))) ((Hs2.out.bbelow Hbm.out).bsame (by repeat' (first | exact Same.refl _ _ | assumption | refine Same.drew ?_ | refine Same.drewN ?_ _ | refine Same.alloc ?_ _ | refine Same.setCell ?_ (fun hq => by simp only [From] at hq; first | omega | (simp at hq; done) | (simp at hq; omega)) _))) ((Hs3.out.bbelow Hbm.out).bsame (by repeat' (first | exact Same.refl _ _ | assumption | refine Same.drew ?_ | refine Same.drewN ?_ _ | refine Same.alloc ?_ _ | refine Same.setCell ?_ (fun hq => by simp only [From] at hq; first | omega | (simp at hq; done) | (simp at hq; omega)) _)))).mono ?_; rintro e w2 ⟨rfl, hbw2⟩; rw [hq]))
                    go_wp2
                    go_roundw
                    case rel => exact ⟨j + 1, by omega, by go_num, by rw [Hq.out], (Hbel2.out.drew.next hbw2 (by simp; omega))⟩
                    case measure => simp [intOf]; omega
                · obtain rfl : j = k := by omega
                  subst hE0
                  go_wp2
                  go_roundw
                  case rel => exact ⟨j + 1, by omega, by go_num, by rw [← Hval.out, Hstep.out, if_neg (by rw [Hpl.out, HE.out]; decide)], (Hbel.out.next Hbm.out (by omega))⟩
                  case measure => simp [intOf]; omega
              · have d1 : (E == 0) = false := by simpa using hE0
                have d2 : (E != 0) = true := by simpa using hE0
                have HE2 := Lib.hid (show placeAt readFaultS sameRd t.reads k = E by rw [Hpl.out, stepE_end hj (by rw [HE.out]; exact hE0), HE.out])
                have HE0 := Lib.hid hE0
                clear hE0
                rcases Nat.lt_or_ge j k with hjk | hjk
                · have hi4 : decide ((j : Int) < (k : Int)) = true := by rw [decide_eq_true_eq]; omega
                  go_wp2
                  go_ret
                  exact ⟨ret_int (Eq.symm (Hbad.out _ HE0.out (by rw [← Hval.out, Hstep.out, if_pos (by rw [HE2.out]; exact HE0.out), HE2.out]))), Hb2.out⟩
                · have hi4 : decide ((j : Int) < (k : Int)) = false := by rw [decide_eq_false_iff_not]; omega
                  go_wp2
                  go_ret
                  exact ⟨ret_int (Eq.symm (Hbad.out _ HE0.out (by rw [← Hval.out, Hstep.out, if_pos (by rw [HE2.out]; exact HE0.out), HE2.out]))), Hb2.out⟩
          · obtain rfl : k = t.reads.length := by omega
            have hfin := Hval.out
            rw [Nat.sub_self] at hfin
            have Hfin := Lib.hid (show readsFaultS t.reads = 0 from hfin.symm)
            clear hfin
            go_wp2
            have Hgd := Lib.hid (Hgood.out Hfin.out)
            have Hbst := Lib.hid Hbel.out
            clear Hval Hfin Hbxr hbz hz0 Hb1 g0 g1 g2 hlt hk Hbel
            obtain ⟨wn, rfl⟩ : ∃ wn : World, wn = wr := ⟨_, rfl⟩
            go_loopw [6] (fun i wr => ∃ k : Nat, k ≤ t.writes.length ∧ i = .int .i64 k ∧ firstBad (placeAt writeFaultS samePl t.writes) (t.writes.length - k) k = writesFaultS t.writes ∧ Below w0.heap.size w0 wr) (fun i _ => t.writes.length - (intOf i).toNat)
            case atStart => exact ⟨0, by omega, rfl, rfl, Hbst.out⟩
            case round =>
              obtain ⟨k, hk, rfl, hval, hbel⟩ := hrel
              have Hbel := Lib.hid hbel
              have Hval := Lib.hid hval
              have hbz := hbel.size
              have hz0 := Hz0.out
              have Hbxr := Lib.hid ((hbel.block _ Hz0.out).trans Hbx.out)
              obtain ⟨g0, g1, g2, _⟩ := box3 Hbxr.out
              have Hb1 := Lib.hid (Hb0.out.next hbel (by omega))
              clear hbel hval
              by_cases hlt : k < t.writes.length
              · have Hstep := Lib.hid (firstBad_at (placeAt writeFaultS samePl t.writes) hlt)
                have Hpl := Lib.hid (placeAt_eq writeFaultS samePl hlt)
                obtain ⟨g, off, A1, a1, B1, b1, C1, c1, hX, _, hal, hc1, hc2, hc3, hc4, hs1, hs2, hs3, _, _, _⟩ := wrs_at (Hb.out.below wrR_stays Hb1.out) hlt
                have Hs1 := Lib.hid hs1.bz
                have Hs2 := Lib.hid hs2.bz
                have Hs3 := Lib.hid hs3.bz
                have Hcx := Lib.hid (And.intro hc1 (And.intro hc2 (And.intro hc3 hc4)))
                have HX := Lib.hid hX
                generalize t.writes[k] = x at *
                generalize hfv : writeFaultS x = fv at *
                have Hfv := Lib.hid hfv
                rw [hX] at g2
                clear hs1 hs2 hs3 hX hfv
                go_wp2_with (go_at_call 112; refine (writeFault_ok _ A1 B1 C1 x a1 b1 c1).mono ?_; rintro e w1 ⟨rfl, hbw1⟩; rw [Hfv.out])
                have Hbw1 := Lib.hid hbw1
                have hzw1 := hbw1.size
                clear hbw1 hc1 hc2 hc3 hc4 g0 g1 g2
                obtain ⟨wm, rfl⟩ : ∃ wm : World, wm = wr := ⟨_, rfl⟩
                go_loopw [7, 8] (fun e i wr => ∃ j : Nat, j ≤ k ∧ i = .int .i64 j ∧ e = .int .i64 (stepE (fun y => samePl y x) fv t.writes j) ∧ Below w1.heap.size w1 wr) (fun _ i _ => k - (intOf i).toNat)
                case atStart => exact ⟨0, by omega, rfl, by rw [stepE_zero], Below.refl _ _⟩
                case round =>
                  obtain ⟨j, hj, rfl, rfl, hbel2⟩ := hrel
                  have Hbel2 := Lib.hid hbel2
                  have hbz2 := hbel2.size
                  have Hbm := Lib.hid (Hbw1.out.next hbel2 hzw1)
                  obtain ⟨q0, q1, q2, _⟩ := box3 ((Hbm.out.block _ (by omega)).trans Hbxr.out)
                  have Hb2 := Lib.hid (Hb1.out.next Hbm.out (by omega))
                  clear hbel2
                  generalize hE : stepE (fun y => samePl y x) fv t.writes j = E at *
                  have HE := Lib.hid hE
                  clear hE
                  by_cases hE0 : E = 0
                  · by_cases hjk : j < k
                    · subst hE0
                      have hjl : j < t.writes.length := by omega
                      obtain ⟨gy, offy, A2, a2, B2, b2, C2, c2, hX2, _, hal2, hd1, hd2, hd3, hd4, ht1, ht2, ht3, _, _, _⟩ := wrs_at (Hb.out.below wrR_stays Hb2.out) hjl
                      have hge : (⟨gy, offy, none⟩ : Addr) = ⟨g, off, none⟩ := Option.some.inj (hX2.symm.trans HX.out)
                      obtain ⟨rfl, rfl⟩ : gy = g ∧ offy = off := by cases hge; exact ⟨rfl, rfl⟩
                      have hc1 := (Hbm.out.cell (p := ⟨gy, offy + k * 4, none⟩) hal).trans Hcx.out.1
                      have hc2 := (Hbm.out.cell (p := ⟨gy, offy + k * 4 + 1, none⟩) hal).trans Hcx.out.2.1
                      have hc3 := (Hbm.out.cell (p := ⟨gy, offy + k * 4 + 2, none⟩) hal).trans Hcx.out.2.2.1
                      have hc4 := (Hbm.out.cell (p := ⟨gy, offy + k * 4 + 3, none⟩) hal).trans Hcx.out.2.2.2
                      have Hhit := Lib.hid (fun h => stepE_hit (q := fun y => samePl y x) HE.out hjl h)
                      have Hmiss := Lib.hid (fun h => stepE_miss (q := fun y => samePl y x) HE.out hjl h)
                      generalize t.writes[j] = y at *
                      have hi0 : (0 : Int) ≤ (j : Int) := by omega
                      have hi1 : (j : Int) < (t.writes.length : Int) := by omega
                      have hi2 : (0 : Int) ≤ (k : Int) := by omega
                      have hi3 : (k : Int) < (t.writes.length : Int) := by omega
                      have hi4 : decide ((j : Int) < (k : Int)) = true := by rw [decide_eq_true_eq]; omega
                      rw [hX2] at q2
                      have Ht1 := Lib.hid ht1.bz
                      have Ht2 := Lib.hid ht2.bz
                      have Ht3 := Lib.hid ht3.bz
                      clear hX2 hge ht1 ht2 ht3 HE
                      rcases Bool.eq_false_or_eq_true (samePl y x) with hq | hq
                      · have Hq := Lib.hid (Hhit.out hq)
                        clear Hhit Hmiss
                        go_wp2_with fail
                        go_region_held3 (fun w' => w'.cell? ⟨w.heap.size, 2, none⟩ = some (.slice (some ⟨gy, offy, none⟩) t.writes.length m) ∧ w'.cell? ⟨gy, offy + k * 4, none⟩ = some (.slice A1 x.name.length a1) ∧ w'.cell? ⟨gy, offy + k * 4 + 1, none⟩ = some (.slice B1 x.key.length b1) ∧ w'.cell? ⟨gy, offy + k * 4 + 2, none⟩ = some (.bool x.flag) ∧ w'.cell? ⟨gy, offy + k * 4 + 3, none⟩ = some (.slice C1 x.value.length c1) ∧ w'.cell? ⟨gy, offy + j * 4, none⟩ = some (.slice A2 y.name.length a2) ∧ w'.cell? ⟨gy, offy + j * 4 + 1, none⟩ = some (.slice B2 y.key.length b2) ∧ w'.cell? ⟨gy, offy + j * 4 + 2, none⟩ = some (.bool y.flag) ∧ w'.cell? ⟨gy, offy + j * 4 + 3, none⟩ = some (.slice C2 y.value.length c2))
                          (first
                            | go_keep
                            | (go_split_ands; refine ⟨?_, ?_, ?_, ?_, ?_, ?_, ?_, ?_, ?_⟩ <;> exact (hbw2.cell (by simp; omega)).trans (by assumption)))
                          ((go_at_call 132; refine (refSamePlace_ok _ A2 B2 C2 A1 B1 C1 y x a2 b2 c2 a1 b1 c1 (Ht1.out.bsame (by repeat' (first | exact Same.refl _ _ | assumption | refine Same.drew ?_ | refine Same.drewN ?_ _ | refine Same.alloc ?_ _ | refine Same.setCell ?_ (fun hq => by simp only [From] at hq; first | omega | (simp at hq; done) | (simp at hq; omega)) _))) (Ht2.out.bsame (by repeat' (first | exact Same.refl _ _ | assumption | refine Same.drew ?_ | refine Same.drewN ?_ _ | refine Same.alloc ?_ _ | refine Same.setCell ?_ (fun hq => by simp only [From] at hq; first | omega | (simp at hq; done) | (simp at hq; omega)) _))) (Ht3.out.bsame (by repeat' (first | exact Same.refl _ _ | assumption | refine Same.drew ?_ | refine Same.drewN ?_ _ | refine Same.alloc ?_ _ | refine Same.setCell ?_ (fun hq => by simp only [From] at hq; first | omega | (simp at hq; done) | (simp at hq; omega)) _))) ((Hs1.out.bbelow Hbm.out).bsame (by repeat' (first | exact Same.refl _ _ | assumption | refine Same.drew ?_ | refine Same.drewN ?_ _ | refine Same.alloc ?_ _ | refine Same.setCell ?_ (fun hq => by simp only [From] at hq; first | omega | (simp at hq; done) | (simp at hq; omega)) _))) ((Hs2.out.bbelow Hbm.out).bsame (by repeat' (first | exact Same.refl _ _ | assumption | refine Same.drew ?_ | refine Same.drewN ?_ _ | refine Same.alloc ?_ _ | refine Same.setCell ?_ (fun hq => by simp only [From] at hq; first | omega | (simp at hq; done) | (simp at hq; omega)) _))) ((Hs3.out.bbelow Hbm.out).bsame (by repeat' (first | exact Same.refl _ _ | assumption | refine Same.drew ?_ | refine Same.drewN ?_ _ | refine Same.alloc ?_ _ | refine Same.setCell ?_ (fun hq => by simp only [From] at hq; first | omega | (simp at hq; done) | (simp at hq; omega)) _)))).mono ?_; rintro e w2 ⟨rfl, hbw2⟩; rw [hq]))
                        go_wp2
                        go_roundw
                        case rel => exact ⟨j + 1, by omega, by go_num, by rw [Hq.out], (Hbel2.out.drew.next hbw2 (by simp; omega))⟩
                        case measure => simp [intOf]; omega
                      · have Hq := Lib.hid (Hmiss.out hq)
                        clear Hhit Hmiss
                        go_wp2_with fail
                        go_region_held3 (fun w' => w'.cell? ⟨w.heap.size, 2, none⟩ = some (.slice (some ⟨gy, offy, none⟩) t.writes.length m) ∧ w'.cell? ⟨gy, offy + k * 4, none⟩ = some (.slice A1 x.name.length a1) ∧ w'.cell? ⟨gy, offy + k * 4 + 1, none⟩ = some (.slice B1 x.key.length b1) ∧ w'.cell? ⟨gy, offy + k * 4 + 2, none⟩ = some (.bool x.flag) ∧ w'.cell? ⟨gy, offy + k * 4 + 3, none⟩ = some (.slice C1 x.value.length c1) ∧ w'.cell? ⟨gy, offy + j * 4, none⟩ = some (.slice A2 y.name.length a2) ∧ w'.cell? ⟨gy, offy + j * 4 + 1, none⟩ = some (.slice B2 y.key.length b2) ∧ w'.cell? ⟨gy, offy + j * 4 + 2, none⟩ = some (.bool y.flag) ∧ w'.cell? ⟨gy, offy + j * 4 + 3, none⟩ = some (.slice C2 y.value.length c2))
                          (first
                            | go_keep
                            | (go_split_ands; refine ⟨?_, ?_, ?_, ?_, ?_, ?_, ?_, ?_, ?_⟩ <;> exact (hbw2.cell (by simp; omega)).trans (by assumption)))
                          ((go_at_call 132; refine (refSamePlace_ok _ A2 B2 C2 A1 B1 C1 y x a2 b2 c2 a1 b1 c1 (Ht1.out.bsame (by repeat' (first | exact Same.refl _ _ | assumption | refine Same.drew ?_ | refine Same.drewN ?_ _ | refine Same.alloc ?_ _ | refine Same.setCell ?_ (fun hq => by simp only [From] at hq; first | omega | (simp at hq; done) | (simp at hq; omega)) _))) (Ht2.out.bsame (by repeat' (first | exact Same.refl _ _ | assumption | refine Same.drew ?_ | refine Same.drewN ?_ _ | refine Same.alloc ?_ _ | refine Same.setCell ?_ (fun hq => by simp only [From] at hq; first | omega | (simp at hq; done) | (simp at hq; omega)) _))) (Ht3.out.bsame (by repeat' (first | exact Same.refl _ _ | assumption | refine Same.drew ?_ | refine Same.drewN ?_ _ | refine Same.alloc ?_ _ | refine Same.setCell ?_ (fun hq => by simp only [From] at hq; first | omega | (simp at hq; done) | (simp at hq; omega)) _))) ((Hs1.out.bbelow Hbm.out).bsame (by repeat' (first | exact Same.refl _ _ | assumption | refine Same.drew ?_ | refine Same.drewN ?_ _ | refine Same.alloc ?_ _ | refine Same.setCell ?_ (fun hq => by simp only [From] at hq; first | omega | (simp at hq; done) | (simp at hq; omega)) _))) ((Hs2.out.bbelow Hbm.out).bsame (by repeat' (first | exact Same.refl _ _ | assumption | refine Same.drew ?_ | refine Same.drewN ?_ _ | refine Same.alloc ?_ _ | refine Same.setCell ?_ (fun hq => by simp only [From] at hq; first | omega | (simp at hq; done) | (simp at hq; omega)) _))) ((Hs3.out.bbelow Hbm.out).bsame (by repeat' (first | exact Same.refl _ _ | assumption | refine Same.drew ?_ | refine Same.drewN ?_ _ | refine Same.alloc ?_ _ | refine Same.setCell ?_ (fun hq => by simp only [From] at hq; first | omega | (simp at hq; done) | (simp at hq; omega)) _)))).mono ?_; rintro e w2 ⟨rfl, hbw2⟩; rw [hq]))
                        go_wp2
                        go_roundw
                        case rel => exact ⟨j + 1, by omega, by go_num, by rw [Hq.out], (Hbel2.out.drew.next hbw2 (by simp; omega))⟩
                        case measure => simp [intOf]; omega
                    · obtain rfl : j = k := by omega
                      subst hE0
                      go_wp2
                      go_roundw
                      case rel => exact ⟨j + 1, by omega, by go_num, by rw [← Hval.out, Hstep.out, if_neg (by rw [Hpl.out, HE.out]; decide)], (Hbel.out.next Hbm.out (by omega))⟩
                      case measure => simp [intOf]; omega
                  · have d1 : (E == 0) = false := by simpa using hE0
                    have d2 : (E != 0) = true := by simpa using hE0
                    have HE2 := Lib.hid (show placeAt writeFaultS samePl t.writes k = E by rw [Hpl.out, stepE_end hj (by rw [HE.out]; exact hE0), HE.out])
                    have HE0 := Lib.hid hE0
                    clear hE0
                    rcases Nat.lt_or_ge j k with hjk | hjk
                    · have hi4 : decide ((j : Int) < (k : Int)) = true := by rw [decide_eq_true_eq]; omega
                      go_wp2
                      go_ret
                      exact ⟨ret_int (by rw [Hgd.out, ← Hval.out, Hstep.out, if_pos (by rw [HE2.out]; exact HE0.out), HE2.out]), Hb2.out⟩
                    · have hi4 : decide ((j : Int) < (k : Int)) = false := by rw [decide_eq_false_iff_not]; omega
                      go_wp2
                      go_ret
                      exact ⟨ret_int (by rw [Hgd.out, ← Hval.out, Hstep.out, if_pos (by rw [HE2.out]; exact HE0.out), HE2.out]), Hb2.out⟩
              · obtain rfl : k = t.writes.length := by omega
                have hfin := Hval.out
                rw [Nat.sub_self] at hfin
                have Hfin := Lib.hid (show writesFaultS t.writes = 0 from hfin.symm)
                clear hfin
                go_wp2
                go_ret
                exact ⟨ret_int (by rw [Hgd.out, Hfin.out]), Hb1.out⟩
  · have b1 : (decide ((0 : Int) ≤ t.start) && decide (t.start ≤ 1048576)) = false := by
      rw [Bool.and_eq_false_iff, decide_eq_false_iff_not, decide_eq_false_iff_not]; omega
    have Hv := Lib.hid (show txnFaultS t = 2 by unfold txnFaultS; rw [if_pos h1])
    clear h1
    go_enter Try.func65, Try.ntmps65
    go_wp2_with (go_at_call 114; refine (in_ok _ _ _ _).mono ?_; rintro e w' ⟨rfl, rfl⟩)
    go_ret
    exact ⟨ret_int (by rw [Hv.out]), by repeat' (first | exact Below.refl _ _ | assumption | refine Below.drew ?_ | refine below_drewN ?_ _ | refine Below.setCell ?_ (by first | (simp; done) | omega | (simp; omega)) _ | refine Below.alloc ?_ (by first | exact Nat.le_refl _ | omega | (simp; done) | (simp; omega)) _)⟩
end Go.Proofs.Ythhcdibimnifaaa
