/- Pf: Proofs: words for memory; what is refused of one, by the references. Walks: ProofFault; words for proof.Check. Walk: proofs (a proof in memory of its own). Walks: proof.Check of proofs that are empty, or not in form. Walk: proof.Check of a proof with steps. proof.Check: its contract. Walk: sameProof; the law ProofChecks. The conditions of each are in its words. -/
import Derived.Test.YteacjkihjeiafaaDoorKPath
import Derived.Test.YteacjkihjeiafaaDoorKBase
import Derived.Test.YteacjkihjeiafaaDoorKPairOf
import Derived.Test.YteacjkihjeiafaaDoorKTrees
namespace Go.Proofs.YteacjkihjeiafaaDoor
open Go.RowKit
set_option linter.unusedVariables false
set_option linter.unusedSimpArgs false

structure St where
  bit : Int
  right : Bool
  other : List UInt8
/-- The three cells of a step. -/
def StR (S : Nat → Prop) (w : World) (cs : List Value) (s : St) : Prop :=
  ∃ A c, cs = [.int .i64 s.bit, .bool s.right, .slice A s.other.length c] ∧ Bs S w A s.other ∧ s.other.length ≤ big
theorem stR_stays : Stays StR :=
  ⟨fun _ _ _ _ _ hb ⟨A, c, h0, h1, h2⟩ => ⟨A, c, h0, h1.bsame hb, h2⟩, fun _ _ _ _ _ hb ⟨A, c, h0, h1, h2⟩ => ⟨A, c, h0, h1.bless hb, h2⟩⟩
abbrev Sts (S : Nat → Prop) (w : World) (A : Option Addr) (l : List St) : Prop := SL 3 StR S w A l
theorem sts_at {S : Nat → Prop} {w : World} {A : Option Addr} {l : List St} (h : Sts S w A l) {k : Nat} (hk : k < l.length) :
    ∃ b off B c, A = some ⟨b, off, none⟩ ∧ S b ∧ b < w.heap.size ∧ w.cell? ⟨b, off + k * 3, none⟩ = some (.int .i64 l[k].bit) ∧ w.cell? ⟨b, off + k * 3 + 1, none⟩ = some (.bool l[k].right) ∧
      w.cell? ⟨b, off + k * 3 + 2, none⟩ = some (.slice B l[k].other.length c) ∧ Bs S w B l[k].other ∧ l[k].other.length ≤ big := by
  obtain ⟨b, off, cs, e, h0, hlt, h1, h2, B, c, rfl, h3, h4⟩ := h.at hk
  exact ⟨b, off, B, c, e, h0, hlt, by simpa using h2 0 (by omega), by simpa using h2 1 (by omega), by simpa using h2 2 (by omega), h3, h4⟩
structure Pf where
  empty : Bool
  steps : List St
  pair : Pr
/-- The four cells of a proof. -/
def PfR (S : Nat → Prop) (w : World) (cs : List Value) (p : Pf) : Prop :=
  ∃ A n K a V b, cs = [.bool p.empty, .slice A p.steps.length n, .slice K p.pair.1.length a, .slice V p.pair.2.length b] ∧ Sts S w A p.steps ∧ Bs S w K p.pair.1 ∧ Bs S w V p.pair.2 ∧ p.steps.length * 40 ≤ 140737488355328 ∧ p.pair.1.length ≤ big ∧ p.pair.2.length ≤ big
theorem box3p {w : World} {g : Nat} {t : TypeId} {a b c : Value} (h : w.heap[g]? = some (.cells #[a, b, c] t (0, 0))) :
    w.cell? ⟨g, 0, none⟩ = some a ∧ w.cell? ⟨g, 1, none⟩ = some b ∧ w.cell? ⟨g, 2, none⟩ = some c ∧ w.frozen? ⟨g, 0, none⟩ = false ∧ w.frozen? ⟨g, 1, none⟩ = false ∧ w.frozen? ⟨g, 2, none⟩ = false :=
  ⟨box_cell (cs := [a, b, c]) h 0, box_cell (cs := [a, b, c]) h 1, box_cell (cs := [a, b, c]) h 2, box_frozen (cs := [a, b, c]) h 0, box_frozen (cs := [a, b, c]) h 1, box_frozen (cs := [a, b, c]) h 2⟩
theorem box4p {w : World} {g : Nat} {t : TypeId} {a b c d : Value} (h : w.heap[g]? = some (.cells #[a, b, c, d] t (0, 0))) :
    w.cell? ⟨g, 0, none⟩ = some a ∧ w.cell? ⟨g, 1, none⟩ = some b ∧ w.cell? ⟨g, 2, none⟩ = some c ∧ w.cell? ⟨g, 3, none⟩ = some d ∧ w.frozen? ⟨g, 0, none⟩ = false ∧ w.frozen? ⟨g, 1, none⟩ = false ∧ w.frozen? ⟨g, 2, none⟩ = false ∧ w.frozen? ⟨g, 3, none⟩ = false :=
  ⟨box_cell (cs := [a, b, c, d]) h 0, box_cell (cs := [a, b, c, d]) h 1, box_cell (cs := [a, b, c, d]) h 2, box_cell (cs := [a, b, c, d]) h 3, box_frozen (cs := [a, b, c, d]) h 0, box_frozen (cs := [a, b, c, d]) h 1, box_frozen (cs := [a, b, c, d]) h 2, box_frozen (cs := [a, b, c, d]) h 3⟩

/-- What is wrong with a step behind one that stands at bit 'prev'. -/
def stepBad (k p : List UInt8) (prev : Int) (s : St) : Bool :=
  !(decide (0 ≤ s.bit) && decide (s.bit ≤ 144)) || s.other.length != 32 || decide (s.bit ≤ prev) || bitB k s.bit.toNat != s.right || bitB p s.bit.toNat != s.right
def prevBit (l : List St) (i : Nat) : Int := if i = 0 then -1 else (l.getD (i - 1) ⟨0, false, []⟩).bit
def stepAt (k p : List UInt8) (l : List St) (i : Nat) : Int := if stepBad k p (prevBit l i) (l.getD i ⟨0, false, []⟩) then 4 else 0
def stepsFault (k p : List UInt8) (l : List St) : Int := firstBad (stepAt k p l) l.length 0
def mayFault (k : List UInt8) (p : Pf) : Int :=
  if p.empty then (if p.steps.length = 0 ∧ p.pair.1.length = 0 ∧ p.pair.2.length = 0 then 0 else 4) else if pairFaultS p.pair ≠ 0 then 4 else stepsFault k p.pair.1 p.steps
/-- What ProofFault and proof.Check answer. -/
def proofFaultS (k : List UInt8) (p : Pf) : Int := if keyFault k ≠ 0 then keyFault k else mayFault k p
theorem prevBit_zero (l : List St) : prevBit l 0 = -1 := rfl
theorem prevBit_succ {l : List St} {i : Nat} (h : i < l.length) : prevBit l (i + 1) = l[i].bit := by simp [prevBit, h]
theorem stepAt_eq (k p : List UInt8) {l : List St} {i : Nat} (h : i < l.length) : stepAt k p l i = if stepBad k p (prevBit l i) l[i] then 4 else 0 := by simp [stepAt, h]
theorem firstBad_04 {f : Nat → Int} (h : ∀ i, f i = 0 ∨ f i = 4) : ∀ n k, firstBad f n k = 0 ∨ firstBad f n k = 4
  | 0, _ => .inl rfl
  | n + 1, k => by
    unfold firstBad
    split
    · exact h k
    · exact firstBad_04 h n (k + 1)
theorem stepsFault_04 (k p : List UInt8) (l : List St) : stepsFault k p l = 0 ∨ stepsFault k p l = 4 := firstBad_04 (fun i => by unfold stepAt; split <;> simp) _ _
theorem mayFault_04 (k : List UInt8) (p : Pf) : mayFault k p = 0 ∨ mayFault k p = 4 := by
  unfold mayFault
  split
  · split <;> simp
  · split
    · simp
    · exact stepsFault_04 _ _ _

set_option maxRecDepth 100000 in
set_option maxHeartbeats 4000000 in
theorem proofMay_ok (w : World) (D : Option Addr) (k : List UInt8) (dc : Nat) (A K V : Option Addr) (p : Pf) (n a b : Nat) (hk : Bs All w D k) (ha : Sts All w A p.steps) (hK : Bs All w K p.pair.1) (hk16 : k.length ≤ 16) (hst : p.steps.length * 40 ≤ 140737488355328) :
    Calls Tryd.prog 115 #[.slice D k.length dc, .agg #[.bool p.empty, .slice A p.steps.length n, .slice K p.pair.1.length a, .slice V p.pair.2.length b]] w (RetV w (.bool (mayFault k p == 0))) := by
  have Hk := Lib.hid hk
  have Ha := Lib.hid ha
  have HK := Lib.hid hK
  clear hk ha hK
  by_cases he : p.empty = true
  · have Hv := Lib.hid (show (mayFault k p == 0) = ((decide (p.steps.length = 0) && decide (p.pair.1.length = 0)) && decide (p.pair.2.length = 0)) by
      unfold mayFault
      rw [if_pos he]
      by_cases h1 : p.steps.length = 0 <;> by_cases h2 : p.pair.1.length = 0 <;> by_cases h3 : p.pair.2.length = 0 <;> simp_all)
    rw [he]
    by_cases h1 : p.steps.length = 0 <;> by_cases h2 : p.pair.1.length = 0 <;> by_cases h3 : p.pair.2.length = 0
    all_goals
      have c1 := congrArg (fun x : Nat => ((x : Int) == 0)) (rfl : p.steps.length = p.steps.length)
      go_enter Tryd.func115, Tryd.ntmps115
      go_wp2
      go_ret
      exact ⟨ret_bool (by rw [Hv.out]; simp_all), by repeat' (first | exact Below.refl _ _ | assumption | refine Below.drew ?_ | refine below_drewN ?_ _ | refine Below.alloc ?_ (by first | exact Nat.le_refl _ | omega | (simp; done) | (simp; omega)) _)⟩
  · have he' : p.empty = false := by simpa using he
    rw [he']
    by_cases hp : pairFaultS p.pair = 0
    · have hp' : (pairFaultS p.pair != 0) = false := by simp [hp]
      have HP16 := Lib.hid (show p.pair.1.length ≤ 16 by unfold pairFaultS at hp; split at hp <;> first | omega | exact key16 hp)
      have Hv := Lib.hid (show mayFault k p = stepsFault k p.pair.1 p.steps by unfold mayFault; rw [if_neg (by simp [he']), if_neg (by simpa using hp)])
      have Hlk := Lib.hid (all145_len hk16)
      have Hlp := Lib.hid (all145_len HP16.out)
      have Hbox := Lib.hid (show ∀ W, Below (w.heap.size + 1) (w.alloc (.cells #[.bool false, .slice A p.steps.length n, .slice K p.pair.1.length a, .slice V p.pair.2.length b] 27)) W → W.cell? ⟨w.heap.size, 1, none⟩ = some (.slice A p.steps.length n) ∧ W.cell? ⟨w.heap.size, 2, none⟩ = some (.slice K p.pair.1.length a) ∧ Below w.heap.size w W ∧ w.heap.size + 1 ≤ W.heap.size from fun W hW => by
        obtain ⟨g0, g1, g2, g3, _⟩ := box4p ((hW.block _ (by omega)).trans (box_new w _ _))
        exact ⟨g1, g2, ((Below.refl w.heap.size w).alloc (Nat.le_refl _) _).trans (hW.mono (by omega)), by simpa using hW.size⟩)
      clear hp
      go_enter Tryd.func115, Tryd.ntmps115
      go_wp2_with (first
        | (go_at_call 137; refine (pairFault_ok _ K V p.pair a b).mono ?_; rintro e w1 ⟨rfl, hb1'⟩; have hb1 := hb1'.mono (show w.heap.size + 1 ≤ _ by simp); obtain ⟨g0, g1, hw1, hz1⟩ := Hbox.out w1 hb1; clear hb1')
        | (go_at_call 85; (with_reducible refine (allBits_ok _ D k dc ?hq hk16).mono ?_); (case hq => exact Hk.out.bbelow hw1); rintro e w2 ⟨A2, c2, rfl, hs2, hb2⟩; obtain ⟨bm, om, rfl, hmlt, _⟩ := bit_at hs2 hk16 (n := 0) (by omega); obtain ⟨g2, g3, hw2, hz2⟩ := Hbox.out w2 (hb1.next hb2 hz1); rw [Hlk.out])
        | (go_at_call 85; (with_reducible refine (allBits_ok _ K p.pair.1 a ?hq HP16.out).mono ?_); (case hq => exact HK.out.bbelow hw2); rintro e w3 ⟨A3, c3, rfl, hs3, hb3⟩; obtain ⟨bi, oi, rfl, hilt, _⟩ := bit_at hs3 HP16.out (n := 0) (by omega); rw [Hlp.out]))
      have Hbw3 := Lib.hid ((hb1.next hb2 hz1).next hb3 hz2)
      have Hm := Lib.hid ((hs2.z boolR_stays).below boolR_stays hb3)
      have Hi := Lib.hid (hs3.z boolR_stays)
      have Hmlt := Lib.hid (Nat.lt_of_lt_of_le hmlt hb3.size)
      have Hilt := Lib.hid hilt
      clear hb1 hb2 hb3 hs2 hs3 hmlt hilt g0 g1 g2 g3 hw1 hw2 hz1 hz2 Hlk Hlp hp'
      go_loopw [7] (fun i wr => ∃ j : Nat, j ≤ p.steps.length ∧ i = .int .i64 j ∧ firstBad (stepAt k p.pair.1 p.steps) (p.steps.length - j) j = stepsFault k p.pair.1 p.steps ∧ Below w3.heap.size w3 wr) (fun i _ => p.steps.length - (intOf i).toNat)
      case atStart => exact ⟨0, by omega, rfl, rfl, Below.refl _ _⟩
      case round =>
        obtain ⟨j, hj, rfl, hval, hbel⟩ := hrel
        have Hbel := Lib.hid hbel
        have Hval := Lib.hid hval
        have hz3 := Hmlt.out
        have hzz := hbel.size
        obtain ⟨g1, g2, hb1, hz1⟩ := Hbox.out wr (Hbw3.out.next hbel (by have := (Hbox.out w3 Hbw3.out).2.2.2; omega))
        have Hb1 := Lib.hid hb1
        clear hbel hval hb1
        by_cases hlt : j < p.steps.length
        · have Hstep := Lib.hid (firstBad_at (stepAt k p.pair.1 p.steps) hlt)
          have Heq := Lib.hid (stepAt_eq k p.pair.1 hlt)
          obtain ⟨g, off, B, c, hX, _, hal, hc1, hc2, hc3, _, _⟩ := sts_at (Ha.out.below stR_stays Hb1.out) hlt
          have Hbad0 := Lib.hid (show stepBad k p.pair.1 (prevBit p.steps j) p.steps[j] = true → mayFault k p = 4 from fun h => by rw [Hv.out, ← Hval.out, Hstep.out, Heq.out, if_pos h]; rfl)
          have Hgood0 := Lib.hid (show stepBad k p.pair.1 (prevBit p.steps j) p.steps[j] = false → firstBad (stepAt k p.pair.1 p.steps) (p.steps.length - (j + 1)) (j + 1) = stepsFault k p.pair.1 p.steps from fun h => by rw [← Hval.out, Hstep.out, Heq.out, if_neg (by rw [h]; decide)])
          clear Hstep Heq Hval
          rcases j with _ | m
          · simp only [Nat.zero_mul, Nat.add_zero] at hc1 hc2 hc3
            rw [prevBit_zero] at Hbad0 Hgood0
            generalize p.steps[0] = x at *
            obtain ⟨xb, xr, xo⟩ := x
            dsimp only at hc1 hc2 hc3
            have Hbad := Lib.hid Hbad0.out
            have Hgood := Lib.hid Hgood0.out
            subst hX
            clear Hbad0 Hgood0
            rcases Bool.eq_false_or_eq_true (decide (0 ≤ xb) && decide (xb ≤ 144)) with hr | hr
            · have hx0 : 0 ≤ xb ∧ xb ≤ 144 := by simpa using hr
              obtain ⟨xn, rfl⟩ : ∃ n : Nat, xb = n := ⟨xb.toNat, by omega⟩
              have h145 : (xn : Int) < 145 := by omega
              have hn0 : (0 : Int) ≤ (xn : Int) := by omega
              have Hr := Lib.hid hr
              clear hr hx0
              by_cases hl : xo.length = 32
              · have hl' : ((xo.length : Int) != 32) = false := by simp [hl]
                have Hl := Lib.hid (show (xo.length != 32) = false by simp [hl])
                clear hl
                have ho : decide ((xn : Int) ≤ -1) = false := by rw [decide_eq_false_iff_not]; omega
                obtain ⟨_, _, em, _, hcm⟩ := bit_at (Hm.out.below boolR_stays Hbel.out) hk16 (n := xn) (by omega)
                cases em
                obtain ⟨_, _, ei, _, hci⟩ := bit_at (Hi.out.below boolR_stays Hbel.out) HP16.out (n := xn) (by omega)
                cases ei
                have hcm' := ((Below.refl _ _).alloc (Nat.le_refl _) (.cells #[.int .i64 xn, .bool xr, .slice B xo.length c] 70)).cell (w := wr) (p := ⟨bm, om + xn, none⟩) (by have := Hmlt.out; simp; omega) |>.trans hcm
                have hci' := ((Below.refl _ _).alloc (Nat.le_refl _) (.cells #[.int .i64 xn, .bool xr, .slice B xo.length c] 70)).cell (w := wr) (p := ⟨bi, oi + xn, none⟩) (by have := Hilt.out; simp; omega) |>.trans hci
                have ex : (xn : Int).toNat = xn := by simp
                have Hbad2 := Lib.hid (show ∀ u v : Bool, u = bitB k xn → v = bitB p.pair.1 xn → (u != xr) = true ∨ ((u != xr) = false ∧ (v != xr) = true) → mayFault k p = 4 from fun u v hu hv h => Hbad.out (by unfold stepBad; rw [Hr.out]; dsimp only; rw [Hl.out, ho, ex, ← hu, ← hv]; rcases h with h | ⟨h, h'⟩ <;> rw [h] <;> first | rfl | (rw [h']; rfl)))
                have Hgood2 := Lib.hid (show ∀ u v : Bool, u = bitB k xn → v = bitB p.pair.1 xn → (u != xr) = false → (v != xr) = false → _ from fun u v hu hv h h' => Hgood.out (by unfold stepBad; rw [Hr.out]; dsimp only; rw [Hl.out, ho, ex, ← hu, ← hv, h, h']; rfl))
                generalize hu : bitB k xn = u at *
                generalize hv : bitB p.pair.1 xn = v at *
                have Hbad3 := Lib.hid (Hbad2.out u v rfl rfl)
                have Hgood3 := Lib.hid (Hgood2.out u v rfl rfl)
                clear Hbad2 Hgood2 Hbad Hgood hcm hci ex hu hv ho
                rcases Bool.eq_false_or_eq_true (u != xr) with h1 | h1
                · have Hbd := Lib.hid (Hbad3.out (.inl h1))
                  clear Hbad3 Hgood3
                  cases u <;> cases xr <;> first | exact absurd h1 (by decide) | skip
                  all_goals
                    go_wp2_with fail
                    go_quiet ((go_at_call 72; exact Calls.quiet_of_same ((in_ok _ (xn : Int) 0 144).mono fun e w' h => ⟨h.1.trans (ret_bool Hr.out), h.2.symm⟩)))
                    go_wp2_with fail
                    (try go_quiet (fail))
                    (try go_wp2)
                    go_ret
                    exact ⟨ret_bool (by rw [Hbd.out]; rfl), (by refine Below.next Hb1.out ?_ (by omega); repeat' (first | exact Below.refl _ _ | assumption | refine Below.drew ?_ | refine below_drewN ?_ _ | refine Below.setCell ?_ (by first | (simp; done) | omega | (simp; omega)) _ | refine Below.alloc ?_ (by first | exact Nat.le_refl _ | omega | (simp; done) | (simp; omega)) _))⟩
                · rcases Bool.eq_false_or_eq_true (v != xr) with h2 | h2
                  · have Hbd := Lib.hid (Hbad3.out (.inr ⟨h1, h2⟩))
                    clear Hbad3 Hgood3
                    cases u <;> cases xr <;> cases v <;> first | exact absurd h1 (by decide) | exact absurd h2 (by decide) | skip
                    all_goals
                      go_wp2_with fail
                      go_quiet ((go_at_call 72; exact Calls.quiet_of_same ((in_ok _ (xn : Int) 0 144).mono fun e w' h => ⟨h.1.trans (ret_bool Hr.out), h.2.symm⟩)))
                      go_wp2_with fail
                      (try go_quiet (fail))
                      (try go_wp2)
                      go_ret
                      exact ⟨ret_bool (by rw [Hbd.out]; rfl), (by refine Below.next Hb1.out ?_ (by omega); repeat' (first | exact Below.refl _ _ | assumption | refine Below.drew ?_ | refine below_drewN ?_ _ | refine Below.setCell ?_ (by first | (simp; done) | omega | (simp; omega)) _ | refine Below.alloc ?_ (by first | exact Nat.le_refl _ | omega | (simp; done) | (simp; omega)) _))⟩
                  · have Hgd := Lib.hid (Hgood3.out h1 h2)
                    clear Hbad3 Hgood3
                    cases u <;> cases xr <;> cases v <;> first | exact absurd h1 (by decide) | exact absurd h2 (by decide) | skip
                    all_goals
                      go_wp2_with fail
                      go_quiet ((go_at_call 72; exact Calls.quiet_of_same ((in_ok _ (xn : Int) 0 144).mono fun e w' h => ⟨h.1.trans (ret_bool Hr.out), h.2.symm⟩)))
                      go_wp2_with fail
                      (try go_quiet (fail))
                      (try go_wp2)
                      go_roundw
                      case rel => exact ⟨0 + 1, by omega, by go_num, Hgd.out, (by refine Below.next Hbel.out ?_ (by omega); repeat' (first | exact Below.refl _ _ | assumption | refine Below.drew ?_ | refine below_drewN ?_ _ | refine Below.setCell ?_ (by first | (simp; done) | omega | (simp; omega)) _ | refine Below.alloc ?_ (by first | exact Nat.le_refl _ | omega | (simp; done) | (simp; omega)) _))⟩
                      case measure => simp [intOf]; omega
              · have hl' : ((xo.length : Int) != 32) = true := by simp; omega
                have Hbd := Lib.hid (Hbad.out (by unfold stepBad; rw [Hr.out]; dsimp only; rw [show (xo.length != 32) = true by simpa using hl]; rfl))
                clear hl
                go_wp2_with fail
                go_quiet ((go_at_call 72; exact Calls.quiet_of_same ((in_ok _ (xn : Int) 0 144).mono fun e w' h => ⟨h.1.trans (ret_bool Hr.out), h.2.symm⟩)))
                go_wp2
                go_ret
                exact ⟨ret_bool (by rw [Hbd.out]; rfl), (by refine Below.next Hb1.out ?_ (by omega); repeat' (first | exact Below.refl _ _ | assumption | refine Below.drew ?_ | refine below_drewN ?_ _ | refine Below.setCell ?_ (by first | (simp; done) | omega | (simp; omega)) _ | refine Below.alloc ?_ (by first | exact Nat.le_refl _ | omega | (simp; done) | (simp; omega)) _))⟩
            · have Hr := Lib.hid hr
              have Hbd := Lib.hid (Hbad.out (by unfold stepBad; rw [Hr.out]; rfl))
              clear hr
              go_wp2_with fail
              go_quiet ((go_at_call 72; exact Calls.quiet_of_same ((in_ok _ xb 0 144).mono fun e w' h => ⟨h.1.trans (ret_bool Hr.out), h.2.symm⟩)))
              go_wp2
              go_ret
              exact ⟨ret_bool (by rw [Hbd.out]; rfl), (by refine Below.next Hb1.out ?_ (by omega); repeat' (first | exact Below.refl _ _ | assumption | refine Below.drew ?_ | refine below_drewN ?_ _ | refine Below.setCell ?_ (by first | (simp; done) | omega | (simp; omega)) _ | refine Below.alloc ?_ (by first | exact Nat.le_refl _ | omega | (simp; done) | (simp; omega)) _))⟩
          · have hm : m < p.steps.length := by omega
            obtain ⟨_, _, _, _, he0, _, _, hc4, _, _, _, _⟩ := sts_at (Ha.out.below stR_stays Hb1.out) hm
            cases hX.symm.trans he0
            rw [prevBit_succ hm] at Hbad0 Hgood0
            generalize p.steps[m + 1] = x at *
            obtain ⟨xb, xr, xo⟩ := x
            generalize p.steps[m] = y at *
            obtain ⟨yb, yr, yo⟩ := y
            dsimp only at hc1 hc2 hc3 hc4 Hbad0 Hgood0
            have Hbad := Lib.hid Hbad0.out
            have Hgood := Lib.hid Hgood0.out
            have hi0 : (0 : Int) ≤ (m : Int) := by omega
            have hi1 : (m : Int) < (p.steps.length : Int) := by omega
            have hk0 : decide ((0 : Int) < (m : Int) + 1) = true := by rw [decide_eq_true_eq]; omega
            have hnew := (Below.refl wr.heap.size wr).alloc (Nat.le_refl _) (.cells #[.int .i64 xb, .bool xr, .slice B xo.length c] 70)
            have g1' := (hnew.cell (p := ⟨w.heap.size, 1, none⟩) (by simp only []; omega)).trans g1
            have hc4' := (hnew.cell (p := ⟨g, off + m * 3, none⟩) (by simp only []; omega)).trans hc4
            clear hnew
            have hiw : IntKind.i64.wrap (m : Int) = (m : Int) := IntWalk.i64_in _ (by omega)
            subst hX
            clear Hbad0 Hgood0 he0
            rcases Bool.eq_false_or_eq_true (decide (0 ≤ xb) && decide (xb ≤ 144)) with hr | hr
            · have hx0 : 0 ≤ xb ∧ xb ≤ 144 := by simpa using hr
              obtain ⟨xn, rfl⟩ : ∃ n : Nat, xb = n := ⟨xb.toNat, by omega⟩
              have h145 : (xn : Int) < 145 := by omega
              have hn0 : (0 : Int) ≤ (xn : Int) := by omega
              have Hr := Lib.hid hr
              clear hr hx0
              by_cases hl : xo.length = 32
              · have hl' : ((xo.length : Int) != 32) = false := by simp [hl]
                have Hl := Lib.hid (show (xo.length != 32) = false by simp [hl])
                clear hl
                rcases Bool.eq_false_or_eq_true (decide ((xn : Int) ≤ yb)) with ho | ho
                · have Hbd := Lib.hid (Hbad.out (by unfold stepBad; rw [Hr.out]; dsimp only; rw [Hl.out, ho]; rfl))
                  go_wp2_with fail
                  go_quiet ((go_at_call 72; exact Calls.quiet_of_same ((in_ok _ (xn : Int) 0 144).mono fun e w' h => ⟨h.1.trans (ret_bool Hr.out), h.2.symm⟩)))
                  go_wp2
                  go_ret
                  exact ⟨ret_bool (by rw [Hbd.out]; rfl), (by refine Below.next Hb1.out ?_ (by omega); repeat' (first | exact Below.refl _ _ | assumption | refine Below.drew ?_ | refine below_drewN ?_ _ | refine Below.setCell ?_ (by first | (simp; done) | omega | (simp; omega)) _ | refine Below.alloc ?_ (by first | exact Nat.le_refl _ | omega | (simp; done) | (simp; omega)) _))⟩
                · skip
                  obtain ⟨_, _, em, _, hcm⟩ := bit_at (Hm.out.below boolR_stays Hbel.out) hk16 (n := xn) (by omega)
                  cases em
                  obtain ⟨_, _, ei, _, hci⟩ := bit_at (Hi.out.below boolR_stays Hbel.out) HP16.out (n := xn) (by omega)
                  cases ei
                  have hcm' := ((Below.refl _ _).alloc (Nat.le_refl _) (.cells #[.int .i64 xn, .bool xr, .slice B xo.length c] 70)).cell (w := wr) (p := ⟨bm, om + xn, none⟩) (by have := Hmlt.out; simp; omega) |>.trans hcm
                  have hci' := ((Below.refl _ _).alloc (Nat.le_refl _) (.cells #[.int .i64 xn, .bool xr, .slice B xo.length c] 70)).cell (w := wr) (p := ⟨bi, oi + xn, none⟩) (by have := Hilt.out; simp; omega) |>.trans hci
                  have ex : (xn : Int).toNat = xn := by simp
                  have Hbad2 := Lib.hid (show ∀ u v : Bool, u = bitB k xn → v = bitB p.pair.1 xn → (u != xr) = true ∨ ((u != xr) = false ∧ (v != xr) = true) → mayFault k p = 4 from fun u v hu hv h => Hbad.out (by unfold stepBad; rw [Hr.out]; dsimp only; rw [Hl.out, ho, ex, ← hu, ← hv]; rcases h with h | ⟨h, h'⟩ <;> rw [h] <;> first | rfl | (rw [h']; rfl)))
                  have Hgood2 := Lib.hid (show ∀ u v : Bool, u = bitB k xn → v = bitB p.pair.1 xn → (u != xr) = false → (v != xr) = false → _ from fun u v hu hv h h' => Hgood.out (by unfold stepBad; rw [Hr.out]; dsimp only; rw [Hl.out, ho, ex, ← hu, ← hv, h, h']; rfl))
                  generalize hu : bitB k xn = u at *
                  generalize hv : bitB p.pair.1 xn = v at *
                  have Hbad3 := Lib.hid (Hbad2.out u v rfl rfl)
                  have Hgood3 := Lib.hid (Hgood2.out u v rfl rfl)
                  clear Hbad2 Hgood2 Hbad Hgood hcm hci ex hu hv
                  rcases Bool.eq_false_or_eq_true (u != xr) with h1 | h1
                  · have Hbd := Lib.hid (Hbad3.out (.inl h1))
                    clear Hbad3 Hgood3
                    cases u <;> cases xr <;> first | exact absurd h1 (by decide) | skip
                    all_goals
                      go_wp2_with fail
                      go_quiet ((go_at_call 72; exact Calls.quiet_of_same ((in_ok _ (xn : Int) 0 144).mono fun e w' h => ⟨h.1.trans (ret_bool Hr.out), h.2.symm⟩)))
                      go_wp2_with fail
                      (try go_quiet (fail))
                      (try go_wp2)
                      go_ret
                      exact ⟨ret_bool (by rw [Hbd.out]; rfl), (by refine Below.next Hb1.out ?_ (by omega); repeat' (first | exact Below.refl _ _ | assumption | refine Below.drew ?_ | refine below_drewN ?_ _ | refine Below.setCell ?_ (by first | (simp; done) | omega | (simp; omega)) _ | refine Below.alloc ?_ (by first | exact Nat.le_refl _ | omega | (simp; done) | (simp; omega)) _))⟩
                  · rcases Bool.eq_false_or_eq_true (v != xr) with h2 | h2
                    · have Hbd := Lib.hid (Hbad3.out (.inr ⟨h1, h2⟩))
                      clear Hbad3 Hgood3
                      cases u <;> cases xr <;> cases v <;> first | exact absurd h1 (by decide) | exact absurd h2 (by decide) | skip
                      all_goals
                        go_wp2_with fail
                        go_quiet ((go_at_call 72; exact Calls.quiet_of_same ((in_ok _ (xn : Int) 0 144).mono fun e w' h => ⟨h.1.trans (ret_bool Hr.out), h.2.symm⟩)))
                        go_wp2_with fail
                        (try go_quiet (fail))
                        (try go_wp2)
                        go_ret
                        exact ⟨ret_bool (by rw [Hbd.out]; rfl), (by refine Below.next Hb1.out ?_ (by omega); repeat' (first | exact Below.refl _ _ | assumption | refine Below.drew ?_ | refine below_drewN ?_ _ | refine Below.setCell ?_ (by first | (simp; done) | omega | (simp; omega)) _ | refine Below.alloc ?_ (by first | exact Nat.le_refl _ | omega | (simp; done) | (simp; omega)) _))⟩
                    · have Hgd := Lib.hid (Hgood3.out h1 h2)
                      clear Hbad3 Hgood3
                      cases u <;> cases xr <;> cases v <;> first | exact absurd h1 (by decide) | exact absurd h2 (by decide) | skip
                      all_goals
                        go_wp2_with fail
                        go_quiet ((go_at_call 72; exact Calls.quiet_of_same ((in_ok _ (xn : Int) 0 144).mono fun e w' h => ⟨h.1.trans (ret_bool Hr.out), h.2.symm⟩)))
                        go_wp2_with fail
                        (try go_quiet (fail))
                        (try go_wp2)
                        go_roundw
                        case rel => exact ⟨(m + 1) + 1, by omega, by go_num, Hgd.out, (by refine Below.next Hbel.out ?_ (by omega); repeat' (first | exact Below.refl _ _ | assumption | refine Below.drew ?_ | refine below_drewN ?_ _ | refine Below.setCell ?_ (by first | (simp; done) | omega | (simp; omega)) _ | refine Below.alloc ?_ (by first | exact Nat.le_refl _ | omega | (simp; done) | (simp; omega)) _))⟩
                        case measure => simp [intOf]; omega
              · have hl' : ((xo.length : Int) != 32) = true := by simp; omega
                have Hbd := Lib.hid (Hbad.out (by unfold stepBad; rw [Hr.out]; dsimp only; rw [show (xo.length != 32) = true by simpa using hl]; rfl))
                clear hl
                go_wp2_with fail
                go_quiet ((go_at_call 72; exact Calls.quiet_of_same ((in_ok _ (xn : Int) 0 144).mono fun e w' h => ⟨h.1.trans (ret_bool Hr.out), h.2.symm⟩)))
                go_wp2
                go_ret
                exact ⟨ret_bool (by rw [Hbd.out]; rfl), (by refine Below.next Hb1.out ?_ (by omega); repeat' (first | exact Below.refl _ _ | assumption | refine Below.drew ?_ | refine below_drewN ?_ _ | refine Below.setCell ?_ (by first | (simp; done) | omega | (simp; omega)) _ | refine Below.alloc ?_ (by first | exact Nat.le_refl _ | omega | (simp; done) | (simp; omega)) _))⟩
            · have Hr := Lib.hid hr
              have Hbd := Lib.hid (Hbad.out (by unfold stepBad; rw [Hr.out]; rfl))
              clear hr
              go_wp2_with fail
              go_quiet ((go_at_call 72; exact Calls.quiet_of_same ((in_ok _ xb 0 144).mono fun e w' h => ⟨h.1.trans (ret_bool Hr.out), h.2.symm⟩)))
              go_wp2
              go_ret
              exact ⟨ret_bool (by rw [Hbd.out]; rfl), (by refine Below.next Hb1.out ?_ (by omega); repeat' (first | exact Below.refl _ _ | assumption | refine Below.drew ?_ | refine below_drewN ?_ _ | refine Below.setCell ?_ (by first | (simp; done) | omega | (simp; omega)) _ | refine Below.alloc ?_ (by first | exact Nat.le_refl _ | omega | (simp; done) | (simp; omega)) _))⟩
        · go_wp2
          go_ret
          obtain rfl : j = p.steps.length := by omega
          have h := Hval.out
          rw [Nat.sub_self] at h
          exact ⟨ret_bool (by rw [Hv.out, ← h]; rfl), Hb1.out⟩
    · have hp' : (pairFaultS p.pair != 0) = true := by simpa using hp
      have Hv := Lib.hid (show (mayFault k p == 0) = false by unfold mayFault; rw [if_neg (by simp [he']), if_pos hp]; rfl)
      clear hp
      go_enter Tryd.func115, Tryd.ntmps115
      go_wp2_with (go_at_call 137; refine (pairFault_ok _ K V p.pair a b).mono ?_; rintro e w1 ⟨rfl, hb1⟩)
      go_ret
      exact ⟨ret_bool Hv.out.symm, (by refine Below.next ?_ hb1 (by simp); repeat' (first | exact Below.refl _ _ | assumption | refine Below.drew ?_ | refine below_drewN ?_ _ | refine Below.setCell ?_ (by first | (simp; done) | omega | (simp; omega)) _ | refine Below.alloc ?_ (by first | exact Nat.le_refl _ | omega | (simp; done) | (simp; omega)) _))⟩
end Go.Proofs.YteacjkihjeiafaaDoor
namespace Go.Proofs.YteacjkihjeiafaaDoor
open Go.RowKit
set_option linter.unusedVariables false
set_option linter.unusedSimpArgs false


theorem one_pair {w : World} {g : Nat} {t : TypeId} {K V : Option Addr} {p : Pr} {a b : Nat} (h : w.heap[g]? = some (.cells #[.slice K p.1.length a, .slice V p.2.length b] t (0, 0))) (hK : Bs All w K p.1) (hV : Bs All w V p.2) (h1 : p.1.length ≤ big) (h2 : p.2.length ≤ big) :
    Ps All w (some ⟨g, 0, none⟩) [p] := by
  intro _
  refine ⟨g, 0, rfl, trivial, (Array.getElem?_eq_some_iff.1 h).1, fun i hi => ?_⟩
  obtain rfl : i = 0 := by simpa using hi
  refine ⟨[.slice K p.1.length a, .slice V p.2.length b], rfl, fun j hj => ?_, K, a, V, b, rfl, hK, hV, h1, h2⟩
  have := box_cell (cs := [.slice K p.1.length a, .slice V p.2.length b]) h j
  simpa using this
theorem pairsFault_one (p : Pr) : pairsFaultS [p] = pairFaultS p := by
  by_cases h : pairFaultS p = 0 <;> simp [pairsFaultS, firstBad, pairAt, h]
theorem treeCheckOne_ok (w : World) (g : Nat) (t : TypeId) (K V : Option Addr) (p : Pr) (a b : Nat) (h : w.heap[g]? = some (.cells #[.slice K p.1.length a, .slice V p.2.length b] t (0, 0))) (hK : Bs All w K p.1) (hV : Bs All w V p.2) (h1 : p.1.length ≤ big) (h2 : p.2.length ≤ big) :
    Calls Tryd.prog 69 #[.slice (some ⟨g, 0, none⟩) 1 1] w (RetV w (.int .i64 (pairFaultS p))) := by
  have h3 := treeCheck_ok w (some ⟨g, 0, none⟩) [p] 1 (one_pair h hK hV h1 h2)
  rw [pairsFault_one] at h3
  exact h3
theorem bitS_in {a : List UInt8} {n : Nat} (h : keyFault a = 0) (hn : n ≤ 144) : (bitS a (n : Int)).1 = bitB a n ∧ (bitS a (n : Int)).2 = 0 := by
  have e : bitS a n = (bitB a n, 0) := by unfold bitS; rw [if_pos h, if_pos (by omega)]; simp
  rw [e]
  exact ⟨rfl, rfl⟩
theorem bitS_out {a : List UInt8} {i : Int} (h : keyFault a = 0) (hn : ¬ (0 ≤ i ∧ i ≤ 144)) : (bitS a i).1 = false ∧ (bitS a i).2 = 2 := by
  have e : bitS a i = (false, 2) := by unfold bitS; rw [if_pos h, if_neg hn]
  rw [e]
  exact ⟨rfl, rfl⟩
theorem pairFault_key {p : Pr} (h : pairFaultS p = 0) : keyFault p.1 = 0 := by
  unfold pairFaultS at h
  split at h
  · omega
  · exact h
theorem proofFault_key {k : List UInt8} {p : Pf} (h : keyFault k = 0) : proofFaultS k p = mayFault k p := by
  unfold proofFaultS
  rw [if_neg (by simpa using h)]

set_option maxHeartbeats 400000 in
theorem proofNone_ok (w : World) (K V : Option Addr) (p : Pr) (a b : Nat) (h1 : p.1.length ≤ big) (h2 : p.2.length ≤ big) :
    Calls Tryd.prog 108 #[.agg #[.slice K p.1.length a, .slice V p.2.length b]] w (RetV w (.bool (decide (p.1.length = 0) && decide (p.2.length = 0)))) := by
  have H1 := Lib.hid h1
  have H2 := Lib.hid h2
  have hw : IntKind.i64.wrap ((p.1.length : Int) + (p.2.length : Int)) = (p.1.length : Int) + (p.2.length : Int) := IntWalk.i64_in _ (by unfold big at h1 h2; omega)
  clear h1 h2
  go_enter Tryd.func108, Tryd.ntmps108
  go_wp2
  go_ret
  refine ⟨ret_bool ?_, by repeat' (first | exact Below.refl _ _ | assumption | refine Below.drew ?_ | refine below_drewN ?_ _ | refine Below.alloc ?_ (by first | exact Nat.le_refl _ | omega | (simp; done) | (simp; omega)) _)⟩
  generalize p.1.length = x
  generalize p.2.length = y
  rw [Bool.eq_iff_iff]
  simp
  omega
set_option maxRecDepth 100000 in
set_option maxHeartbeats 4000000 in
theorem proofFault_ok (w : World) (D : Option Addr) (k : List UInt8) (dc : Nat) (A K V : Option Addr) (p : Pf) (n a b : Nat) (hk : Bs All w D k) (ha : Sts All w A p.steps) (hK : Bs All w K p.pair.1) (hst : p.steps.length * 40 ≤ 140737488355328) :
    Calls Tryd.prog 73 #[.slice D k.length dc, .agg #[.bool p.empty, .slice A p.steps.length n, .slice K p.pair.1.length a, .slice V p.pair.2.length b]] w (RetV w (.int .i64 (proofFaultS k p))) := by
  have Hk := Lib.hid hk
  have Ha := Lib.hid ha
  have HK := Lib.hid hK
  clear hk ha hK
  by_cases he : keyFault k = 0
  · rw [proofFault_key he]
    have Hmay := Lib.hid (fun W (h : Below w.heap.size w W) => proofMay_ok W D k dc A K V p n a b (Hk.out.bbelow h) (Ha.out.below stR_stays h) (HK.out.bbelow h) (key16 he) hst)
    have He := Lib.hid he
    rcases mayFault_04 k p with h | h
    all_goals
      rw [h] at Hmay ⊢
      clear he h
      go_enter Tryd.func73, Tryd.ntmps73
      go_wp2_with (first
        | (go_at_call 43; refine (keyFault_ok _ D k dc).mono ?_; rintro e w1 ⟨rfl, rfl⟩; rw [He.out])
        | (go_at_call 115; refine (Hmay.out _ ?_).mono ?_; (repeat' (first | exact Below.refl _ _ | assumption | refine Below.drew ?_ | refine below_drewN ?_ _ | refine Below.alloc ?_ (by first | exact Nat.le_refl _ | omega | (simp; done) | (simp; omega)) _)); rintro e w2 ⟨rfl, hb2⟩))
      go_ret
      exact ⟨rfl, (by refine Below.next ?_ hb2 (by first | (simp; done) | omega | (simp; omega)); repeat' (first | exact Below.refl _ _ | assumption | refine Below.drew ?_ | refine below_drewN ?_ _ | refine Below.alloc ?_ (by first | exact Nat.le_refl _ | omega | (simp; done) | (simp; omega)) _))⟩
  · have hv : proofFaultS k p = keyFault k := by unfold proofFaultS; rw [if_pos he]
    have b1 : (keyFault k == 0) = false := by simpa using he
    rw [hv]
    clear he hv
    go_enter Tryd.func73, Tryd.ntmps73
    go_wp2_with (go_at_call 43; refine (keyFault_ok _ D k dc).mono ?_; rintro e w1 ⟨rfl, rfl⟩)
    go_ret
    exact ⟨rfl, by repeat' (first | exact Below.refl _ _ | assumption | refine Below.drew ?_ | refine below_drewN ?_ _ | refine Below.alloc ?_ (by first | exact Nat.le_refl _ | omega | (simp; done) | (simp; omega)) _)⟩
end Go.Proofs.YteacjkihjeiafaaDoor
namespace Go.Proofs.YteacjkihjeiafaaDoor
open Go.RowKit
set_option linter.unusedVariables false
set_option linter.unusedSimpArgs false

theorem info_st : (Tryd.prog.info? 70).map (fun i => (i.zero, i.size, i.bytes)) = some (some (.agg #[.int .i64 0, .bool false, .slice none 0 0]), 3, 40) := by kernel_rfl
theorem two_new (w : World) (a b : Obj) : ((w.alloc a).alloc b).heap[w.heap.size]? = some a ∧ ((w.alloc a).alloc b).heap[w.heap.size + 1]? = some b ∧ ((w.alloc a).alloc b).heap.size = w.heap.size + 2 ∧ Below w.heap.size w ((w.alloc a).alloc b) := by
  refine ⟨?_, ?_, by simp, ((Below.refl _ _).alloc (Nat.le_refl _) _).alloc (by simp) _⟩
  · rw [heap_alloc_old _ _ (by simp), heap_alloc_new]
  · have := heap_alloc_new (w.alloc a) b
    simpa using this
theorem Same.of_less {S : Nat → Prop} {n : Nat} {w w' : World} (h : Below n w w') (hS : ∀ k, S k → k < n) : Same S w w' := ⟨h.size, fun k hk _ => h.block k (hS k hk)⟩
theorem st_fresh {n base : Nat} {w W : World} {v : Value} {A : Option Addr} {x : St} {a : Nat} (h1 : Bs (From n) w A x.other) (g1 : x.other.length ≤ big) (hs : Same (From n) w W) (hb : base ≤ n) (hap : ∀ b, From n b → v.ownBlock ≠ some b) :
    StR (fun b => From base b ∧ v.ownBlock ≠ some b) W [.int .i64 x.bit, .bool x.right, .slice A x.other.length a] x :=
  ⟨A, a, rfl, (h1.bsame hs).bless fun b _ h => ⟨Nat.le_trans hb h, hap b h⟩, g1⟩
theorem Own.same_from3 {α : Type} {size : Nat} {R : (Nat → Prop) → World → List Value → α → Prop} {w w' : World} {base : Nat} {e : TypeId} {v : Value} {l : List α} (hR : Stays R) (h : Own size R (From base) w base e v l) (hb : Same (From base) w w') : Own size R (From base) w' base e v l := by
  obtain ⟨xs, h1, h2⟩ := h
  refine ⟨xs, ⟨h1.1, ?_⟩, fun i hi => ?_⟩
  · rcases h1.2 with hn | ⟨g, cap, cur, hv', hb', hh, rest⟩
    · exact .inl hn
    · refine .inr ⟨g, cap, cur, hv', hb', ?_, rest⟩
      rw [hb.block g hb' (Array.getElem?_eq_some_iff.1 hh).1]
      exact hh
  · have h3 := hR.less _ (fun b => (From base b ∧ v.ownBlock ≠ some b) ∧ From base b) w _ _ (fun b hb2 hs => ⟨hs, hs.1⟩) (h2 i hi)
    have h4 := hR.same _ w w' _ _ ⟨hb.size, fun k hk hk2 => hb.block k hk.2 hk2⟩ h3
    exact hR.less _ _ _ _ _ (fun b _ hs => hs.1) h4
/-- The call returns a proof that reads as p, in memory of its own. -/
def RetPf (w : World) (p : Pf) (e : Ending) (w' : World) : Prop :=
  ∃ A n K a V b, e = .returned (.agg #[.bool p.empty, .slice A p.steps.length n, .slice K p.pair.1.length a, .slice V p.pair.2.length b]) ∧ Sts (From w.heap.size) w' A p.steps ∧ Bs (From w.heap.size) w' K p.pair.1 ∧ Bs (From w.heap.size) w' V p.pair.2 ∧ Below w.heap.size w w'
/-- The variable 'out' at block G. -/
structure PfAt (w : World) (A K V K1 V1 : Option Addr) (n a b k1 v1 : Nat) (p : Pf) (W : World) (G : Nat) : Prop where
  x : W.heap[w.heap.size]? = some (.cells #[.bool p.empty, .slice A p.steps.length n, .slice K p.pair.1.length a, .slice V p.pair.2.length b] 27 (0, 0))
  y : W.heap[w.heap.size + 1]? = some (.cells #[.bool false, .slice none 0 0, .slice none 0 0, .slice none 0 0] 27 (0, 0))
  z : W.heap[G]? = some (.cells #[.bool p.empty, .slice none 0 0, .slice K1 p.pair.1.length k1, .slice V1 p.pair.2.length v1] 27 (0, 0))
  lo : w.heap.size + 2 ≤ G
  hi : G < W.heap.size
  b : Below w.heap.size w W
  k : Bs (fun b => w.heap.size + 2 ≤ b ∧ b ≠ G) W K1 p.pair.1
  v : Bs (fun b => w.heap.size + 2 ≤ b ∧ b ≠ G) W V1 p.pair.2

set_option maxRecDepth 100000 in
set_option maxHeartbeats 8000000 in
theorem proofs_ok (w : World) (A K V : Option Addr) (p : Pf) (n a b : Nat) (ha : Sts All w A p.steps) (hK : Bs All w K p.pair.1) (hV : Bs All w V p.pair.2) (hst : p.steps.length * 40 ≤ 140737488355328) (hl1 : p.pair.1.length ≤ big) (hl2 : p.pair.2.length ≤ big) :
    Calls Tryd.prog 10 #[.agg #[.bool p.empty, .slice A p.steps.length n, .slice K p.pair.1.length a, .slice V p.pair.2.length b]] w (RetPf w p) := by
  obtain ⟨i0, hi0, hz0, hz1, hz2⟩ := info_parts info_st
  have Ha := Lib.hid ha
  have HK := Lib.hid hK
  have HV := Lib.hid hV
  clear ha hK hV
  obtain ⟨hx, hy, hsz, hbl⟩ := two_new w (.cells #[.bool p.empty, .slice A p.steps.length n, .slice K p.pair.1.length a, .slice V p.pair.2.length b] 27) (.cells #[.bool false, .slice none 0 0, .slice none 0 0, .slice none 0 0] 27)
  obtain ⟨g0, g1, g2, g3, _⟩ := box4p hx
  have Hx := Lib.hid hx
  have Hy := Lib.hid hy
  have Hbl := Lib.hid hbl
  have Hz2 := Lib.hid (show (((w.alloc (.cells #[.bool p.empty, .slice A p.steps.length n, .slice K p.pair.1.length a, .slice V p.pair.2.length b] 27)).alloc (.cells #[.bool false, .slice none 0 0, .slice none 0 0, .slice none 0 0] 27)).drew.alloc (.cells #[.bool false, .slice none 0 0, .slice none 0 0, .slice none 0 0] 27)).heap[w.heap.size + 2]? = some (.cells #[.bool false, .slice none 0 0, .slice none 0 0, .slice none 0 0] 27) by have := heap_alloc_new ((w.alloc (.cells #[.bool p.empty, .slice A p.steps.length n, .slice K p.pair.1.length a, .slice V p.pair.2.length b] 27)).alloc (.cells #[.bool false, .slice none 0 0, .slice none 0 0, .slice none 0 0] 27)).drew (.cells #[.bool false, .slice none 0 0, .slice none 0 0, .slice none 0 0] 27); simpa using this)
  clear hx hy hbl hsz
  go_enter Tryd.func10, Tryd.ntmps10
  go_wp2_with fail
  go_region_held3 (fun w' => w'.cell? ⟨w.heap.size, 0, none⟩ = some (.bool p.empty) ∧ w'.cell? ⟨w.heap.size, 2, none⟩ = some (.slice K p.pair.1.length a) ∧ w'.cell? ⟨w.heap.size, 3, none⟩ = some (.slice V p.pair.2.length b))
    (first
      | go_keep
      | exact ⟨q0, q2, q3⟩
      | (exact ⟨((World.cell?_setCell_far _ _ _ _ (by simp only []; omega)).trans ((World.cell?_setCell_far _ _ _ _ (by simp only []; omega)).trans ((World.cell?_setCell_far _ _ _ _ (by simp only []; omega)).trans ((World.cell?_setCell_far _ _ _ _ (by simp only []; omega)).trans q0)))), ((World.cell?_setCell_far _ _ _ _ (by simp only []; omega)).trans ((World.cell?_setCell_far _ _ _ _ (by simp only []; omega)).trans ((World.cell?_setCell_far _ _ _ _ (by simp only []; omega)).trans ((World.cell?_setCell_far _ _ _ _ (by simp only []; omega)).trans q2)))), ((World.cell?_setCell_far _ _ _ _ (by simp only []; omega)).trans ((World.cell?_setCell_far _ _ _ _ (by simp only []; omega)).trans ((World.cell?_setCell_far _ _ _ _ (by simp only []; omega)).trans ((World.cell?_setCell_far _ _ _ _ (by simp only []; omega)).trans q3))))⟩))
    ((go_at_call 33; (with_reducible refine (pairOf_ok _ K V p.pair a b ?hx ?hy hl1 hl2).mono ?_); (case hx => (refine (HK.out.bbelow Hbl.out).bsame ?_; repeat' (first | exact Same.refl _ _ | assumption | refine Same.drew ?_ | refine Same.drewN ?_ _ | refine Same.alloc ?_ _ | refine Same.setCell ?_ (fun hq => by simp only [From] at hq; first | omega | (simp at hq; done) | (simp at hq; omega)) _))); (case hy => (refine (HV.out.bbelow Hbl.out).bsame ?_; repeat' (first | exact Same.refl _ _ | assumption | refine Same.drew ?_ | refine Same.drewN ?_ _ | refine Same.alloc ?_ _ | refine Same.setCell ?_ (fun hq => by simp only [From] at hq; first | omega | (simp at hq; done) | (simp at hq; omega)) _))); rintro e w1 ⟨K1, k1, V1, v1, rfl, hs1, hs2, hb1⟩; have hx1 : w1.heap[w.heap.size]? = some (.cells #[.bool p.empty, .slice A p.steps.length n, .slice K p.pair.1.length a, .slice V p.pair.2.length b] 27 (0, 0)) := (hb1.block w.heap.size (by first | (simp; done) | omega | (simp; omega))).trans (by first | exact Hx.out | exact (heap_alloc_old _ _ (by first | (simp; done) | omega | (simp; omega))).trans Hx.out); have hy1 : w1.heap[w.heap.size + 1]? = some (.cells #[.bool false, .slice none 0 0, .slice none 0 0, .slice none 0 0] 27 (0, 0)) := (hb1.block (w.heap.size + 1) (by first | (simp; done) | omega | (simp; omega))).trans (by first | exact Hy.out | exact (heap_alloc_old _ _ (by first | (simp; done) | omega | (simp; omega))).trans Hy.out); obtain ⟨q0, q1, q2, q3, _⟩ := box4p hx1; have hzp : w.heap.size < w1.heap.size := (by have hq1 := hb1.size; simp at hq1; omega); (try (have hz2 : w1.heap[w.heap.size + 2]? = some (.cells #[.bool false, .slice none 0 0, .slice none 0 0, .slice none 0 0] 27 (0, 0)) := (hb1.block (w.heap.size + 2) (by first | (simp; done) | omega | (simp; omega))).trans Hz2.out; obtain ⟨e0, e1, e2, e3, e4, e5, e6, e7⟩ := box4p hz2; have hzl : w.heap.size + 1 + 1 < w1.heap.size := (by have hq1 := hb1.size; simp at hq1; omega)))))
  · go_wp2_with fail
    have hF : PfAt w A K V K1 V1 n a b k1 v1 p (w1.alloc (.cells #[.bool p.empty, .slice none 0 0, .slice K1 p.pair.1.length k1, .slice V1 p.pair.2.length v1] 27)) w1.heap.size := by
      have hq1 := hb1.size
      simp at hq1
      refine ⟨(heap_alloc_old _ _ hzp).trans hx1, (heap_alloc_old _ _ (by omega)).trans hy1, box_new w1 _ _, by omega, by simp, ?_, ?_, ?_⟩
      · exact (Hbl.out.drew.next hb1 (by first | (simp; done) | omega | (simp; omega))).alloc (by omega) _
      · exact ((hs1.bless (S' := fun b => w.heap.size + 2 ≤ b ∧ b ≠ w1.heap.size) fun b hb h => ⟨by simp only [From] at h; simp at h; omega, by omega⟩).bsame ((Same.refl _ _).alloc _))
      · exact ((hs2.bless (S' := fun b => w.heap.size + 2 ≤ b ∧ b ≠ w1.heap.size) fun b hb h => ⟨by simp only [From] at h; simp at h; omega, by omega⟩).bsame ((Same.refl _ _).alloc _))
    have HF := Lib.hid hF
    clear hF hb1 hs1 hs2 hx1 hy1 q0 q1 q2 q3 hzp
    generalize w1.alloc (.cells #[.bool p.empty, .slice none 0 0, .slice K1 p.pair.1.length k1, .slice V1 p.pair.2.length v1] 27) = W0 at *
    generalize w1.heap.size = G at *
    have hlo := HF.out.lo
    have hhi := HF.out.hi
    clear g0 g1 g2 g3
    go_loopw [4] (fun i wr => ∃ (k : Nat) (v : Value), k ≤ p.steps.length ∧ i = .int .i64 k ∧ Own 3 StR (From W0.heap.size) wr W0.heap.size 70 v (p.steps.take k) ∧ wr.heap[G]? = some (.cells #[.bool p.empty, v, .slice K1 p.pair.1.length k1, .slice V1 p.pair.2.length v1] 27 (0, 0)) ∧ Below w.heap.size W0 wr ∧ Same (fun b => b < W0.heap.size ∧ b ≠ G) W0 wr) (fun i _ => p.steps.length - (intOf i).toNat)
    case atStart => exact ⟨0, _, by omega, rfl, Own.nil _ _ _, HF.out.z, Below.refl _ _, Same.refl _ _⟩
    case round =>
      obtain ⟨k, v, hk, rfl, hown, hcx, hbel, hsm⟩ := hrel
      have Hbel := Lib.hid hbel
      have Hown := Lib.hid hown
      have Hcx := Lib.hid hcx
      have Hsm := Lib.hid hsm
      have hbz := hbel.size
      have Hbw := Lib.hid (HF.out.b.trans hbel)
      obtain ⟨g0, g1, g2, g3, _⟩ := box4p ((hsm.block w.heap.size ⟨by omega, by omega⟩ (by omega)).trans HF.out.x)
      clear hown hbel hcx hsm
      by_cases hlt : k < p.steps.length
      · obtain ⟨g, off, B, c, rfl, _, hal, hc1, hc2, hc3, hs1, hb1⟩ := sts_at (Ha.out.below stR_stays Hbw.out) hlt
        have Hsn := Lib.hid (take_snoc p.steps k hlt)
        have hl8 : (p.steps.take k ++ [p.steps[k]]).length = k + 1 := by rw [List.length_append, List.length_take, List.length_singleton]; omega
        generalize p.steps[k] = x at *
        have Hs1 := Lib.hid hs1.bz
        have hGr : G < wr.heap.size := by omega
        clear hs1
        go_wp2_with (first
          | (go_at_call 9; (with_reducible refine (octets_ok _ B x.other c ?h1 hb1).mono ?_); (case h1 => exact Hs1.out.bsame (by repeat' (first | exact Same.refl _ _ | assumption | refine Same.drew ?_ | refine Same.drewN ?_ _ | refine Same.alloc ?_ _ | refine Same.setCell ?_ (fun hq => by simp only [From] at hq; first | omega | (simp at hq; done) | (simp at hq; omega)) _))); rintro e w6 ⟨A6, c6, rfl, gs6, hbw6⟩; have hb6 : Below wr.heap.size wr w6 := ((Below.refl wr.heap.size wr).alloc (Nat.le_refl _) _).next hbw6 (by simp); have hz6 : wr.heap.size < w6.heap.size := (by have := hbw6.size; simp at this; omega); have Gs6 := Lib.hid gs6; obtain ⟨ge0, ge1, ge2, ge3, ge4, ge5⟩ := box3p ((hbw6.block wr.heap.size (by simp)).trans (box_new wr _ _)); have hbx6 := (hb6.block G hGr).trans Hcx.out; obtain ⟨ga0, ga1, ga2, ga3, _⟩ := box4p ((((Below.refl wr.heap.size w6).setCell (p := ⟨wr.heap.size, 2, none⟩) (Nat.le_refl _) (.slice A6 x.other.length c6)).block G hGr).trans hbx6); have Hbx6 := Lib.hid hbx6; clear gs6 hbx6)
          | (at_builtin; refine wpl_snoc stR_stays (S := From W0.heap.size) _ rfl _ _ _ rfl W0.heap.size 70 i0 _ 3 40 Tryd.underlying23 hi0 hz0 hz1 hz2 rfl (by decide) v (p.steps.take k) rfl ?hown _ _ [.int .i64 x.bit, .bool x.right, .slice A6 x.other.length c6] rfl rfl (new_src _ _ [.int .i64 x.bit, .bool x.right, .slice A6 x.other.length c6] _ (by simp)) (by simp [Value.oneCell']) ?hm ?hby ?hba x ?hd ?_; (case hown => (refine Own.below stR_stays Hown.out ?_; exact ((hb6.setCell (Nat.le_refl _) _).alloc (by simp; omega) _))); (case hm => (simp only [List.length_take, maxLen]; omega)); (case hby => (simp only [List.length_take]; omega)); (case hba => (simp; omega)); (case hd => (refine st_fresh (n := wr.heap.size + 1) (Gs6.out.blo (by simp)) hb1 ?_ (by omega) (fun b hb => Hown.out.apart wr.heap.size (Nat.le_refl _) b (by simp only [From] at hb ⊢; omega)); repeat' (first | exact Same.refl _ _ | assumption | refine Same.drew ?_ | refine Same.drewN ?_ _ | refine Same.alloc ?_ _ | refine Same.setCell ?_ (fun hq => by simp only [From] at hq; first | omega | (simp at hq; done) | (simp at hq; omega)) _))); intro v8 w8 hown8 hbw8; obtain ⟨A8, c8, rfl, _, _⟩ := hown8.readc stR_stays; have Hown8 := Lib.hid hown8; clear hown8; have hbx8 := (hbw8.block G (by omega)).trans ((heap_alloc_old _ _ (by simp; omega)).trans ((((Below.refl wr.heap.size w6).setCell (p := ⟨wr.heap.size, 2, none⟩) (Nat.le_refl _) (.slice A6 x.other.length c6)).block G hGr).trans Hbx6.out)); obtain ⟨gf0, gf1, gf2, gf3, gf4, gf5, gf6, gf7⟩ := box4p hbx8; have hzw8 := hbw8.size; simp at hzw8; have hz88 : G < w8.heap.size := (by omega)))
        go_roundw
        case rel => exact ⟨k + 1, _, by omega, by go_num, by rw [Hsn.out]; exact Own.same_from3 stR_stays Hown8.out ((Same.refl _ _).setCell (fun h => by simp only [From] at h; omega) _), by rw [heap_setCell_same _ _ _ _ _ _ hbx8, hl8]; rfl, (((Hbel.out.trans ((hb6.setCell (Nat.le_refl _) _).mono (by omega))).alloc (by simp; omega) _).trans (hbw8.mono (by omega))).setCell (by simp only []; omega) _, (((Hsm.out.trans (Same.of_below (hb6.setCell (Nat.le_refl _) _))).alloc _).trans (Same.of_less hbw8 (fun k h => h.1))).setCell (fun h => h.2 rfl) _⟩
        case measure => simp [intOf]; omega
      · obtain rfl : k = p.steps.length := by omega
        have hown3 := Hown.out
        rw [List.take_length] at hown3
        obtain ⟨A8, c8, rfl, hc8, hs8⟩ := hown3.readc stR_stays
        have Hs8 := Lib.hid hs8
        obtain ⟨ge0, ge1, ge2, ge3, _⟩ := box4p Hcx.out
        obtain ⟨gh0, gh1, gh2, gh3, gh4, gh5, gh6, gh7⟩ := box4p ((Hsm.out.block (w.heap.size + 1) ⟨by omega, by omega⟩ (by omega)).trans HF.out.y)
        have hzr : w.heap.size + 1 < wr.heap.size := by omega
        clear hown3 Hown hs8
        go_wp2
        refine bodyPost_ret (v := .agg #[.bool p.empty, .slice A8 p.steps.length c8, .slice K1 p.pair.1.length k1, .slice V1 p.pair.2.length v1]) (by simp [results, Tryd.results10, go_sem, gh0, gh1, gh2, gh3]) rfl ⟨A8, c8, K1, k1, V1, v1, rfl, ?_, ?_, ?_, ?_⟩
        · refine (Hs8.out.same stR_stays (((((Same.refl _ _).setCell (fun h => by simp only [From] at h; omega) _).setCell (fun h => by simp only [From] at h; omega) _).setCell (fun h => by simp only [From] at h; omega) _).setCell (fun h => by simp only [From] at h; omega) _)).less stR_stays (fun b _ h => by simp only [From] at *; omega)
        · refine (((HF.out.k.bless (S' := fun b => (w.heap.size + 2 ≤ b) ∧ (b < W0.heap.size ∧ b ≠ G)) fun b hb h => ⟨h.1, hb, h.2⟩).bsame ⟨Hsm.out.size, fun k hk hk2 => Hsm.out.block k hk.2 hk2⟩).bsame (((((Same.refl _ _).setCell (fun h => by have := h.1; simp only [] at this; omega) _).setCell (fun h => by have := h.1; simp only [] at this; omega) _).setCell (fun h => by have := h.1; simp only [] at this; omega) _).setCell (fun h => by have := h.1; simp only [] at this; omega) _)).bless (fun b _ h => by simp only [From] at *; omega)
        · refine (((HF.out.v.bless (S' := fun b => (w.heap.size + 2 ≤ b) ∧ (b < W0.heap.size ∧ b ≠ G)) fun b hb h => ⟨h.1, hb, h.2⟩).bsame ⟨Hsm.out.size, fun k hk hk2 => Hsm.out.block k hk.2 hk2⟩).bsame (((((Same.refl _ _).setCell (fun h => by have := h.1; simp only [] at this; omega) _).setCell (fun h => by have := h.1; simp only [] at this; omega) _).setCell (fun h => by have := h.1; simp only [] at this; omega) _).setCell (fun h => by have := h.1; simp only [] at this; omega) _)).bless (fun b _ h => by simp only [From] at *; omega)
        · exact ((((Hbw.out.setCell (by simp only []; omega) _).setCell (by simp only []; omega) _).setCell (by simp only []; omega) _).setCell (by simp only []; omega) _)
  · go_wp2_with fail
    have hF : PfAt w A K V K1 V1 n a b k1 v1 p ((((w1.setCell ⟨w.heap.size + 1 + 1, 0, none⟩ (.bool p.empty)).setCell ⟨w.heap.size + 1 + 1, 1, none⟩ (.slice none 0 0)).setCell ⟨w.heap.size + 1 + 1, 2, none⟩ (.slice K1 p.pair.1.length k1)).setCell ⟨w.heap.size + 1 + 1, 3, none⟩ (.slice V1 p.pair.2.length v1)) (w.heap.size + 1 + 1) := by
      have hq1 := hb1.size
      simp at hq1
      have hlw : Below (w.heap.size + 1 + 1) w1 ((((w1.setCell ⟨w.heap.size + 1 + 1, 0, none⟩ (.bool p.empty)).setCell ⟨w.heap.size + 1 + 1, 1, none⟩ (.slice none 0 0)).setCell ⟨w.heap.size + 1 + 1, 2, none⟩ (.slice K1 p.pair.1.length k1)).setCell ⟨w.heap.size + 1 + 1, 3, none⟩ (.slice V1 p.pair.2.length v1)) := (((((Below.refl (w.heap.size + 1 + 1) w1).setCell (p := ⟨w.heap.size + 1 + 1, 0, none⟩) (Nat.le_refl _) (.bool p.empty)).setCell (p := ⟨w.heap.size + 1 + 1, 1, none⟩) (Nat.le_refl _) (.slice none 0 0)).setCell (p := ⟨w.heap.size + 1 + 1, 2, none⟩) (Nat.le_refl _) (.slice K1 p.pair.1.length k1)).setCell (p := ⟨w.heap.size + 1 + 1, 3, none⟩) (Nat.le_refl _) (.slice V1 p.pair.2.length v1))
      have hsm : Same (fun b => w.heap.size + 2 ≤ b ∧ b ≠ w.heap.size + 1 + 1) w1 ((((w1.setCell ⟨w.heap.size + 1 + 1, 0, none⟩ (.bool p.empty)).setCell ⟨w.heap.size + 1 + 1, 1, none⟩ (.slice none 0 0)).setCell ⟨w.heap.size + 1 + 1, 2, none⟩ (.slice K1 p.pair.1.length k1)).setCell ⟨w.heap.size + 1 + 1, 3, none⟩ (.slice V1 p.pair.2.length v1)) := (((((Same.refl _ _).setCell (fun h => h.2 rfl) _).setCell (fun h => h.2 rfl) _).setCell (fun h => h.2 rfl) _).setCell (fun h => h.2 rfl) _)
      refine ⟨(hlw.block _ (by omega)).trans hx1, (hlw.block _ (by omega)).trans hy1, ?_, by omega, by simpa using hzl, ?_, ?_, ?_⟩
      · rw [heap_setCell_same _ _ _ _ _ _ (heap_setCell_same _ _ _ _ _ _ (heap_setCell_same _ _ _ _ _ _ (heap_setCell_same _ _ _ _ _ _ hz2)))]
        rfl
      · exact ((Hbl.out.drew.alloc (by first | (simp; done) | omega | (simp; omega)) _).next hb1 (by first | (simp; done) | omega | (simp; omega))).trans (hlw.mono (by omega))
      · exact ((hs1.bless (S' := fun b => w.heap.size + 2 ≤ b ∧ b ≠ w.heap.size + 1 + 1) fun b hb h => ⟨by simp only [From] at h; simp at h; omega, by simp only [From] at h; simp at h; omega⟩).bsame hsm)
      · exact ((hs2.bless (S' := fun b => w.heap.size + 2 ≤ b ∧ b ≠ w.heap.size + 1 + 1) fun b hb h => ⟨by simp only [From] at h; simp at h; omega, by simp only [From] at h; simp at h; omega⟩).bsame hsm)
    have HF := Lib.hid hF
    clear hF hb1 hs1 hs2 hx1 hy1 q0 q1 q2 q3 hzp hz2 hzl e0 e1 e2 e3 e4 e5 e6 e7
    generalize ((((w1.setCell ⟨w.heap.size + 1 + 1, 0, none⟩ (.bool p.empty)).setCell ⟨w.heap.size + 1 + 1, 1, none⟩ (.slice none 0 0)).setCell ⟨w.heap.size + 1 + 1, 2, none⟩ (.slice K1 p.pair.1.length k1)).setCell ⟨w.heap.size + 1 + 1, 3, none⟩ (.slice V1 p.pair.2.length v1)) = W0 at *
    obtain ⟨G, hG⟩ : ∃ G, G = w.heap.size + 1 + 1 := ⟨_, rfl⟩
    rw [← hG] at HF ⊢
    clear hG
    have hlo := HF.out.lo
    have hhi := HF.out.hi
    clear g0 g1 g2 g3
    go_loopw [4] (fun i wr => ∃ (k : Nat) (v : Value), k ≤ p.steps.length ∧ i = .int .i64 k ∧ Own 3 StR (From W0.heap.size) wr W0.heap.size 70 v (p.steps.take k) ∧ wr.heap[G]? = some (.cells #[.bool p.empty, v, .slice K1 p.pair.1.length k1, .slice V1 p.pair.2.length v1] 27 (0, 0)) ∧ Below w.heap.size W0 wr ∧ Same (fun b => b < W0.heap.size ∧ b ≠ G) W0 wr) (fun i _ => p.steps.length - (intOf i).toNat)
    case atStart => exact ⟨0, _, by omega, rfl, Own.nil _ _ _, HF.out.z, Below.refl _ _, Same.refl _ _⟩
    case round =>
      obtain ⟨k, v, hk, rfl, hown, hcx, hbel, hsm⟩ := hrel
      have Hbel := Lib.hid hbel
      have Hown := Lib.hid hown
      have Hcx := Lib.hid hcx
      have Hsm := Lib.hid hsm
      have hbz := hbel.size
      have Hbw := Lib.hid (HF.out.b.trans hbel)
      obtain ⟨g0, g1, g2, g3, _⟩ := box4p ((hsm.block w.heap.size ⟨by omega, by omega⟩ (by omega)).trans HF.out.x)
      clear hown hbel hcx hsm
      by_cases hlt : k < p.steps.length
      · obtain ⟨g, off, B, c, rfl, _, hal, hc1, hc2, hc3, hs1, hb1⟩ := sts_at (Ha.out.below stR_stays Hbw.out) hlt
        have Hsn := Lib.hid (take_snoc p.steps k hlt)
        have hl8 : (p.steps.take k ++ [p.steps[k]]).length = k + 1 := by rw [List.length_append, List.length_take, List.length_singleton]; omega
        generalize p.steps[k] = x at *
        have Hs1 := Lib.hid hs1.bz
        have hGr : G < wr.heap.size := by omega
        clear hs1
        go_wp2_with (first
          | (go_at_call 9; (with_reducible refine (octets_ok _ B x.other c ?h1 hb1).mono ?_); (case h1 => exact Hs1.out.bsame (by repeat' (first | exact Same.refl _ _ | assumption | refine Same.drew ?_ | refine Same.drewN ?_ _ | refine Same.alloc ?_ _ | refine Same.setCell ?_ (fun hq => by simp only [From] at hq; first | omega | (simp at hq; done) | (simp at hq; omega)) _))); rintro e w6 ⟨A6, c6, rfl, gs6, hbw6⟩; have hb6 : Below wr.heap.size wr w6 := ((Below.refl wr.heap.size wr).alloc (Nat.le_refl _) _).next hbw6 (by simp); have hz6 : wr.heap.size < w6.heap.size := (by have := hbw6.size; simp at this; omega); have Gs6 := Lib.hid gs6; obtain ⟨ge0, ge1, ge2, ge3, ge4, ge5⟩ := box3p ((hbw6.block wr.heap.size (by simp)).trans (box_new wr _ _)); have hbx6 := (hb6.block G hGr).trans Hcx.out; obtain ⟨ga0, ga1, ga2, ga3, _⟩ := box4p ((((Below.refl wr.heap.size w6).setCell (p := ⟨wr.heap.size, 2, none⟩) (Nat.le_refl _) (.slice A6 x.other.length c6)).block G hGr).trans hbx6); have Hbx6 := Lib.hid hbx6; clear gs6 hbx6)
          | (at_builtin; refine wpl_snoc stR_stays (S := From W0.heap.size) _ rfl _ _ _ rfl W0.heap.size 70 i0 _ 3 40 Tryd.underlying23 hi0 hz0 hz1 hz2 rfl (by decide) v (p.steps.take k) rfl ?hown _ _ [.int .i64 x.bit, .bool x.right, .slice A6 x.other.length c6] rfl rfl (new_src _ _ [.int .i64 x.bit, .bool x.right, .slice A6 x.other.length c6] _ (by simp)) (by simp [Value.oneCell']) ?hm ?hby ?hba x ?hd ?_; (case hown => (refine Own.below stR_stays Hown.out ?_; exact ((hb6.setCell (Nat.le_refl _) _).alloc (by simp; omega) _))); (case hm => (simp only [List.length_take, maxLen]; omega)); (case hby => (simp only [List.length_take]; omega)); (case hba => (simp; omega)); (case hd => (refine st_fresh (n := wr.heap.size + 1) (Gs6.out.blo (by simp)) hb1 ?_ (by omega) (fun b hb => Hown.out.apart wr.heap.size (Nat.le_refl _) b (by simp only [From] at hb ⊢; omega)); repeat' (first | exact Same.refl _ _ | assumption | refine Same.drew ?_ | refine Same.drewN ?_ _ | refine Same.alloc ?_ _ | refine Same.setCell ?_ (fun hq => by simp only [From] at hq; first | omega | (simp at hq; done) | (simp at hq; omega)) _))); intro v8 w8 hown8 hbw8; obtain ⟨A8, c8, rfl, _, _⟩ := hown8.readc stR_stays; have Hown8 := Lib.hid hown8; clear hown8; have hbx8 := (hbw8.block G (by omega)).trans ((heap_alloc_old _ _ (by simp; omega)).trans ((((Below.refl wr.heap.size w6).setCell (p := ⟨wr.heap.size, 2, none⟩) (Nat.le_refl _) (.slice A6 x.other.length c6)).block G hGr).trans Hbx6.out)); obtain ⟨gf0, gf1, gf2, gf3, gf4, gf5, gf6, gf7⟩ := box4p hbx8; have hzw8 := hbw8.size; simp at hzw8; have hz88 : G < w8.heap.size := (by omega)))
        go_roundw
        case rel => exact ⟨k + 1, _, by omega, by go_num, by rw [Hsn.out]; exact Own.same_from3 stR_stays Hown8.out ((Same.refl _ _).setCell (fun h => by simp only [From] at h; omega) _), by rw [heap_setCell_same _ _ _ _ _ _ hbx8, hl8]; rfl, (((Hbel.out.trans ((hb6.setCell (Nat.le_refl _) _).mono (by omega))).alloc (by simp; omega) _).trans (hbw8.mono (by omega))).setCell (by simp only []; omega) _, (((Hsm.out.trans (Same.of_below (hb6.setCell (Nat.le_refl _) _))).alloc _).trans (Same.of_less hbw8 (fun k h => h.1))).setCell (fun h => h.2 rfl) _⟩
        case measure => simp [intOf]; omega
      · obtain rfl : k = p.steps.length := by omega
        have hown3 := Hown.out
        rw [List.take_length] at hown3
        obtain ⟨A8, c8, rfl, hc8, hs8⟩ := hown3.readc stR_stays
        have Hs8 := Lib.hid hs8
        obtain ⟨ge0, ge1, ge2, ge3, _⟩ := box4p Hcx.out
        obtain ⟨gh0, gh1, gh2, gh3, gh4, gh5, gh6, gh7⟩ := box4p ((Hsm.out.block (w.heap.size + 1) ⟨by omega, by omega⟩ (by omega)).trans HF.out.y)
        have hzr : w.heap.size + 1 < wr.heap.size := by omega
        clear hown3 Hown hs8
        go_wp2
        refine bodyPost_ret (v := .agg #[.bool p.empty, .slice A8 p.steps.length c8, .slice K1 p.pair.1.length k1, .slice V1 p.pair.2.length v1]) (by simp [results, Tryd.results10, go_sem, gh0, gh1, gh2, gh3]) rfl ⟨A8, c8, K1, k1, V1, v1, rfl, ?_, ?_, ?_, ?_⟩
        · refine (Hs8.out.same stR_stays (((((Same.refl _ _).setCell (fun h => by simp only [From] at h; omega) _).setCell (fun h => by simp only [From] at h; omega) _).setCell (fun h => by simp only [From] at h; omega) _).setCell (fun h => by simp only [From] at h; omega) _)).less stR_stays (fun b _ h => by simp only [From] at *; omega)
        · refine (((HF.out.k.bless (S' := fun b => (w.heap.size + 2 ≤ b) ∧ (b < W0.heap.size ∧ b ≠ G)) fun b hb h => ⟨h.1, hb, h.2⟩).bsame ⟨Hsm.out.size, fun k hk hk2 => Hsm.out.block k hk.2 hk2⟩).bsame (((((Same.refl _ _).setCell (fun h => by have := h.1; simp only [] at this; omega) _).setCell (fun h => by have := h.1; simp only [] at this; omega) _).setCell (fun h => by have := h.1; simp only [] at this; omega) _).setCell (fun h => by have := h.1; simp only [] at this; omega) _)).bless (fun b _ h => by simp only [From] at *; omega)
        · refine (((HF.out.v.bless (S' := fun b => (w.heap.size + 2 ≤ b) ∧ (b < W0.heap.size ∧ b ≠ G)) fun b hb h => ⟨h.1, hb, h.2⟩).bsame ⟨Hsm.out.size, fun k hk hk2 => Hsm.out.block k hk.2 hk2⟩).bsame (((((Same.refl _ _).setCell (fun h => by have := h.1; simp only [] at this; omega) _).setCell (fun h => by have := h.1; simp only [] at this; omega) _).setCell (fun h => by have := h.1; simp only [] at this; omega) _).setCell (fun h => by have := h.1; simp only [] at this; omega) _)).bless (fun b _ h => by simp only [From] at *; omega)
        · exact ((((Hbw.out.setCell (by simp only []; omega) _).setCell (by simp only []; omega) _).setCell (by simp only []; omega) _).setCell (by simp only []; omega) _)
end Go.Proofs.YteacjkihjeiafaaDoor
namespace Go.Proofs.YteacjkihjeiafaaDoor
open Go.RowKit
set_option linter.unusedVariables false
set_option linter.unusedSimpArgs false

set_option maxRecDepth 100000 in
set_option maxHeartbeats 8000000 in
theorem proofCheck_empty (w : World) (D : Option Addr) (k : List UInt8) (dc : Nat) (A K V : Option Addr) (p : Pf) (n a b : Nat) (hk : Bs All w D k) (ha : Sts All w A p.steps) (hK : Bs All w K p.pair.1) (hV : Bs All w V p.pair.2) (hst : p.steps.length * 40 ≤ 140737488355328) (hl1 : p.pair.1.length ≤ big) (hl2 : p.pair.2.length ≤ big) (hkf : keyFault k = 0) (he : p.empty = true) :
    Calls Tryd.prog 65 #[.slice D k.length dc, .agg #[.bool true, .slice A p.steps.length n, .slice K p.pair.1.length a, .slice V p.pair.2.length b]] w (RetV w (.int .i64 (mayFault k p))) := by
  have Hk := Lib.hid hk
  have Ha := Lib.hid ha
  have HK := Lib.hid hK
  have HV := Lib.hid hV
  clear hk ha hK hV
  have Hkf := Lib.hid hkf
  clear hkf
  by_cases hs : p.steps.length = 0
  · have Hv := Lib.hid (show mayFault k p = if (decide (p.pair.1.length = 0) && decide (p.pair.2.length = 0)) = true then 0 else 4 by
      unfold mayFault
      rw [if_pos he]
      by_cases h2 : p.pair.1.length = 0 <;> by_cases h3 : p.pair.2.length = 0 <;> simp_all)
    have hs' : decide ((0 : Int) < (p.steps.length : Int)) = false := by simp [hs]
    have hs0 : p.steps = [] := List.eq_nil_of_length_eq_zero hs
    clear hs
    cases hn : (decide (p.pair.1.length = 0) && decide (p.pair.2.length = 0))
    all_goals
      rw [hn] at Hv
      have Hn := Lib.hid hn
      clear hn
      go_enter Tryd.func65, Tryd.ntmps65
      go_wp2_with (first
        | (go_at_call 107; refine (pathCheck_ok _ D k dc).mono ?_; rintro e w1 ⟨rfl, rfl⟩; rw [Hkf.out])
        | (go_at_call 108; refine (proofNone_ok _ K V p.pair a b hl1 hl2).mono ?_; rintro e w2 ⟨rfl, hb2⟩; rw [Hn.out]))
      go_ret
      exact ⟨ret_int (by rw [Hv.out]; rfl), (by refine Below.next ?_ hb2 (by first | (simp; done) | omega | (simp; omega)); repeat' (first | exact Below.refl _ _ | assumption | refine Below.drew ?_ | refine below_drewN ?_ _ | refine Below.alloc ?_ (by first | exact Nat.le_refl _ | omega | (simp; done) | (simp; omega)) _))⟩
  · have hv : mayFault k p = 4 := by unfold mayFault; rw [if_pos he, if_neg (by simp [hs])]
    have hs0 : ¬ p.steps = [] := fun h => hs (by rw [h]; rfl)
    have hs1 : 0 < p.steps.length := by omega
    rw [hv]
    clear hv hs
    go_enter Tryd.func65, Tryd.ntmps65
    go_wp2_with (go_at_call 107; refine (pathCheck_ok _ D k dc).mono ?_; rintro e w1 ⟨rfl, rfl⟩; rw [Hkf.out])
    go_ret
    exact ⟨rfl, by repeat' (first | exact Below.refl _ _ | assumption | refine Below.drew ?_ | refine below_drewN ?_ _ | refine Below.alloc ?_ (by first | exact Nat.le_refl _ | omega | (simp; done) | (simp; omega)) _)⟩
set_option maxRecDepth 100000 in
set_option maxHeartbeats 8000000 in
theorem proofCheck_bad (w : World) (D : Option Addr) (k : List UInt8) (dc : Nat) (A K V : Option Addr) (p : Pf) (n a b : Nat) (hk : Bs All w D k) (ha : Sts All w A p.steps) (hK : Bs All w K p.pair.1) (hV : Bs All w V p.pair.2) (hst : p.steps.length * 40 ≤ 140737488355328) (hl1 : p.pair.1.length ≤ big) (hl2 : p.pair.2.length ≤ big) (hkf : keyFault k = 0) (he' : p.empty = false) (hp : pairFaultS p.pair ≠ 0) :
    Calls Tryd.prog 65 #[.slice D k.length dc, .agg #[.bool false, .slice A p.steps.length n, .slice K p.pair.1.length a, .slice V p.pair.2.length b]] w (RetV w (.int .i64 (mayFault k p))) := by
  have Hk := Lib.hid hk
  have Ha := Lib.hid ha
  have HK := Lib.hid hK
  have HV := Lib.hid hV
  clear hk ha hK hV
  have Hkf := Lib.hid hkf
  clear hkf
  have Hpf := Lib.hid (rfl : pairFaultS p.pair = pairFaultS p.pair)
  have hp' : (pairFaultS p.pair != 0) = true := by simpa using hp
  have hv : mayFault k p = 4 := by unfold mayFault; rw [if_neg (by simp [he']), if_pos hp]
  rw [hv]
  clear hp hv
  go_enter Tryd.func65, Tryd.ntmps65
  go_wp2_with (first
    | (go_at_call 107; refine (pathCheck_ok _ D k dc).mono ?_; rintro e w1 ⟨rfl, rfl⟩; rw [Hkf.out])
    | (go_at_call 69; (with_reducible refine (treeCheckOne_ok _ _ 25 K V p.pair a b ?hh ?hx ?hy hl1 hl2).mono ?_); (case hh => (have h := box_new (w.alloc (.cells #[.bool false, .slice A p.steps.length n, .slice K p.pair.1.length a, .slice V p.pair.2.length b] 27)) #[.slice K p.pair.1.length a, .slice V p.pair.2.length b] 25; simpa using h)); (case hx => (refine HK.out.bbelow ?_; repeat' (first | exact Below.refl _ _ | assumption | refine Below.drew ?_ | refine below_drewN ?_ _ | refine Below.alloc ?_ (by first | exact Nat.le_refl _ | omega | (simp; done) | (simp; omega)) _))); (case hy => (refine HV.out.bbelow ?_; repeat' (first | exact Below.refl _ _ | assumption | refine Below.drew ?_ | refine below_drewN ?_ _ | refine Below.alloc ?_ (by first | exact Nat.le_refl _ | omega | (simp; done) | (simp; omega)) _))); rintro e w2 ⟨rfl, hb2⟩))
  go_ret
  exact ⟨rfl, (by refine Below.next ?_ hb2 (by first | (simp; done) | omega | (simp; omega)); repeat' (first | exact Below.refl _ _ | assumption | refine Below.drew ?_ | refine below_drewN ?_ _ | refine Below.alloc ?_ (by first | exact Nat.le_refl _ | omega | (simp; done) | (simp; omega)) _))⟩
set_option maxRecDepth 100000 in
set_option maxHeartbeats 8000000 in
theorem proofCheck_key (w : World) (D : Option Addr) (k : List UInt8) (dc : Nat) (A K V : Option Addr) (p : Pf) (n a b : Nat) (hk : Bs All w D k) (ha : Sts All w A p.steps) (hK : Bs All w K p.pair.1) (hV : Bs All w V p.pair.2) (hst : p.steps.length * 40 ≤ 140737488355328) (hl1 : p.pair.1.length ≤ big) (hl2 : p.pair.2.length ≤ big) (hkf : ¬ keyFault k = 0) :
    Calls Tryd.prog 65 #[.slice D k.length dc, .agg #[.bool p.empty, .slice A p.steps.length n, .slice K p.pair.1.length a, .slice V p.pair.2.length b]] w (RetV w (.int .i64 (proofFaultS k p))) := by
  have Hk := Lib.hid hk
  have Ha := Lib.hid ha
  have HK := Lib.hid hK
  have HV := Lib.hid hV
  clear hk ha hK hV
  have hv : proofFaultS k p = keyFault k := by unfold proofFaultS; rw [if_pos hkf]
  have b1 : (keyFault k != 0) = true := by simpa using hkf
  rw [hv]
  clear hkf hv
  go_enter Tryd.func65, Tryd.ntmps65
  go_wp2_with (go_at_call 107; refine (pathCheck_ok _ D k dc).mono ?_; rintro e w1 ⟨rfl, rfl⟩)
  go_ret
  exact ⟨rfl, by repeat' (first | exact Below.refl _ _ | assumption | refine Below.drew ?_ | refine below_drewN ?_ _ | refine Below.alloc ?_ (by first | exact Nat.le_refl _ | omega | (simp; done) | (simp; omega)) _)⟩
end Go.Proofs.YteacjkihjeiafaaDoor
namespace Go.Proofs.YteacjkihjeiafaaDoor
open Go.RowKit
set_option linter.unusedVariables false
set_option linter.unusedSimpArgs false

set_option maxRecDepth 100000 in
set_option maxHeartbeats 8000000 in
theorem proofCheck_good (w : World) (D : Option Addr) (k : List UInt8) (dc : Nat) (A K V : Option Addr) (p : Pf) (n a b : Nat) (hk : Bs All w D k) (ha : Sts All w A p.steps) (hK : Bs All w K p.pair.1) (hV : Bs All w V p.pair.2) (hst : p.steps.length * 40 ≤ 140737488355328) (hl1 : p.pair.1.length ≤ big) (hl2 : p.pair.2.length ≤ big) (hkf : keyFault k = 0) (he' : p.empty = false) (hp : pairFaultS p.pair = 0) :
    Calls Tryd.prog 65 #[.slice D k.length dc, .agg #[.bool false, .slice A p.steps.length n, .slice K p.pair.1.length a, .slice V p.pair.2.length b]] w (RetV w (.int .i64 (mayFault k p))) := by
  have Hk := Lib.hid hk
  have Ha := Lib.hid ha
  have HK := Lib.hid hK
  have HV := Lib.hid hV
  clear hk ha hK hV
  have Hkf := Lib.hid hkf
  clear hkf
  have Hpk := Lib.hid (pairFault_key hp)
  have Hpf := Lib.hid hp
  have Hv := Lib.hid (show mayFault k p = stepsFault k p.pair.1 p.steps by unfold mayFault; rw [if_neg (by simp [he']), if_neg (by simpa using hp)])
  have Hbox := Lib.hid (show ∀ W, Below (w.heap.size + 1) (w.alloc (.cells #[.bool false, .slice A p.steps.length n, .slice K p.pair.1.length a, .slice V p.pair.2.length b] 27)) W → W.cell? ⟨w.heap.size, 1, none⟩ = some (.slice A p.steps.length n) ∧ W.cell? ⟨w.heap.size, 2, none⟩ = some (.slice K p.pair.1.length a) ∧ Below w.heap.size w W ∧ w.heap.size + 1 ≤ W.heap.size from fun W hW => by
    obtain ⟨g0, g1, g2, g3, _⟩ := box4p ((hW.block _ (by omega)).trans (box_new w _ _))
    exact ⟨g1, g2, ((Below.refl w.heap.size w).alloc (Nat.le_refl _) _).trans (hW.mono (by omega)), by simpa using hW.size⟩)
  clear hp
  go_enter Tryd.func65, Tryd.ntmps65
  go_wp2_with (first
    | (go_at_call 107; refine (pathCheck_ok _ D k dc).mono ?_; rintro e w1 ⟨rfl, rfl⟩; rw [Hkf.out])
    | (go_at_call 69; (with_reducible refine (treeCheckOne_ok _ _ 25 K V p.pair a b ?hh ?hx ?hy hl1 hl2).mono ?_); (case hh => (have h := box_new (w.alloc (.cells #[.bool false, .slice A p.steps.length n, .slice K p.pair.1.length a, .slice V p.pair.2.length b] 27)) #[.slice K p.pair.1.length a, .slice V p.pair.2.length b] 25; simpa using h)); (case hx => (refine HK.out.bbelow ?_; repeat' (first | exact Below.refl _ _ | assumption | refine Below.drew ?_ | refine below_drewN ?_ _ | refine Below.alloc ?_ (by first | exact Nat.le_refl _ | omega | (simp; done) | (simp; omega)) _))); (case hy => (refine HV.out.bbelow ?_; repeat' (first | exact Below.refl _ _ | assumption | refine Below.drew ?_ | refine below_drewN ?_ _ | refine Below.alloc ?_ (by first | exact Nat.le_refl _ | omega | (simp; done) | (simp; omega)) _))); rintro e w2 ⟨rfl, hb2'⟩; rw [Hpf.out]; have hb2 : Below (w.heap.size + 1) (w.alloc (.cells #[.bool false, .slice A p.steps.length n, .slice K p.pair.1.length a, .slice V p.pair.2.length b] 27)) w2 := (((Below.refl _ _).alloc (by simp) _).trans (hb2'.mono (by simp))); obtain ⟨g1, g2, hw2, hz2⟩ := Hbox.out w2 hb2; clear hb2'))
  have Hb2 := Lib.hid hb2
  clear hb2 hw2 g1 g2
  go_loopw [6, 38] (fun last i wr => ∃ j : Nat, j ≤ p.steps.length ∧ i = .int .i64 j ∧ last = .int .i64 (prevBit p.steps j) ∧ firstBad (stepAt k p.pair.1 p.steps) (p.steps.length - j) j = stepsFault k p.pair.1 p.steps ∧ Below w2.heap.size w2 wr) (fun _ i _ => p.steps.length - (intOf i).toNat)
  case atStart => exact ⟨0, by omega, rfl, rfl, rfl, Below.refl _ _⟩
  case round =>
    obtain ⟨j, hj, rfl, rfl, hval, hbel⟩ := hrel
    have Hbel := Lib.hid hbel
    have Hval := Lib.hid hval
    have hzz := hbel.size
    obtain ⟨g1, g2, hb1, hz1⟩ := Hbox.out wr (Hb2.out.next hbel (by omega))
    have Hb1 := Lib.hid hb1
    have Hbr := Lib.hid (Hb2.out.next hbel (by omega))
    clear hbel hval hb1
    by_cases hlt : j < p.steps.length
    · have Hstep := Lib.hid (firstBad_at (stepAt k p.pair.1 p.steps) hlt)
      have Heq := Lib.hid (stepAt_eq k p.pair.1 hlt)
      obtain ⟨g, off, B, c, hX, _, hal, hc1, hc2, hc3, _, _⟩ := sts_at (Ha.out.below stR_stays Hb1.out) hlt
      have Hbad0 := Lib.hid (show stepBad k p.pair.1 (prevBit p.steps j) p.steps[j] = true → mayFault k p = 4 from fun h => by rw [Hv.out, ← Hval.out, Hstep.out, Heq.out, if_pos h]; rfl)
      have Hgood0 := Lib.hid (show stepBad k p.pair.1 (prevBit p.steps j) p.steps[j] = false → firstBad (stepAt k p.pair.1 p.steps) (p.steps.length - (j + 1)) (j + 1) = stepsFault k p.pair.1 p.steps from fun h => by rw [← Hval.out, Hstep.out, Heq.out, if_neg (by rw [h]; decide)])
      have Hpb := Lib.hid (prevBit_succ hlt)
      clear Hstep Heq Hval
      generalize prevBit p.steps j = yb at *
      generalize p.steps[j] = x at *
      obtain ⟨xb, xr, xo⟩ := x
      dsimp only at hc1 hc2 hc3 Hbad0 Hgood0 Hpb
      have Hbad := Lib.hid Hbad0.out
      have Hgood := Lib.hid Hgood0.out
      subst hX
      clear Hbad0 Hgood0
      have Hx := Lib.hid (show ∀ W, Below (wr.heap.size + 1) (wr.alloc (.cells #[.int .i64 xb, .bool xr, .slice B xo.length c] 70)) W → W.cell? ⟨wr.heap.size, 0, none⟩ = some (.int .i64 xb) ∧ W.cell? ⟨wr.heap.size, 1, none⟩ = some (.bool xr) ∧ W.cell? ⟨wr.heap.size, 2, none⟩ = some (.slice B xo.length c) ∧ Below wr.heap.size wr W ∧ wr.heap.size + 1 ≤ W.heap.size ∧ W.cell? ⟨w.heap.size, 2, none⟩ = some (.slice K p.pair.1.length a) ∧ Below w.heap.size w W from fun W hW => by
        obtain ⟨q0, q1, q2, _⟩ := box3p ((hW.block _ (by omega)).trans (box_new wr _ _))
        have hwW := ((Below.refl wr.heap.size wr).alloc (Nat.le_refl _) _).trans (hW.mono (by omega))
        have hbx := Hbox.out W (Hbr.out.next hwW (by omega))
        exact ⟨q0, q1, q2, hwW, by simpa using hW.size, hbx.2.1, hbx.2.2.1⟩)
      rcases Bool.eq_false_or_eq_true (decide (0 ≤ xb) && decide (xb ≤ 144)) with hr | hr
      · have hx0 : 0 ≤ xb ∧ xb ≤ 144 := by simpa using hr
        obtain ⟨xn, rfl⟩ : ∃ n : Nat, xb = n := ⟨xb.toNat, by omega⟩
        have HmA := Lib.hid (bitS_in (n := xn) Hkf.out (by omega)).1
        have HmB := Lib.hid (bitS_in (n := xn) Hkf.out (by omega)).2
        have HiA := Lib.hid (bitS_in (n := xn) Hpk.out (by omega)).1
        have HiB := Lib.hid (bitS_in (n := xn) Hpk.out (by omega)).2
        have Hr := Lib.hid hr
        have ex : (xn : Int).toNat = xn := by simp
        have Hst := Lib.hid (show ∀ u v : Bool, u = bitB k xn → v = bitB p.pair.1 xn → stepBad k p.pair.1 yb ⟨xn, xr, xo⟩ = (((xo.length != 32 || decide ((xn : Int) ≤ yb)) || (u != xr)) || (v != xr)) from fun u v hu hv => by unfold stepBad; rw [Hr.out]; dsimp only; rw [ex, ← hu, ← hv, Bool.not_true, Bool.false_or])
        clear hr hx0 ex
        generalize hu : bitB k xn = u at *
        generalize hv : bitB p.pair.1 xn = v at *
        have Hst2 := Lib.hid (Hst.out u v rfl rfl)
        clear hu hv Hst
        rcases Bool.eq_false_or_eq_true (decide ((xn : Int) ≤ yb)) with ho | ho
        · have Hbd := Lib.hid (Hbad.out (by rw [Hst2.out, ho]; simp))
          go_wp2_with (first
            | (go_at_call 80; (with_reducible refine (pathBit_ok _ D k dc xn ?hq).mono ?_); (case hq => (refine Hk.out.bbelow (Below.next Hb1.out ?_ (by omega)); repeat' (first | exact Below.refl _ _ | assumption | refine Below.drew ?_ | refine below_drewN ?_ _ | refine Below.alloc ?_ (by first | exact Nat.le_refl _ | omega | (simp; done) | (simp; omega)) _))); rintro e w4 ⟨rfl, hb4⟩; obtain ⟨q0, q1, q2, hx4, hz4, q3, hw4⟩ := Hx.out w4 (hb4.mono (by simp)); rw [HmA.out, HmB.out]; clear hb4)
            | (go_at_call 80; (with_reducible refine (pathBit_ok _ K p.pair.1 a xn ?hq).mono ?_); (case hq => exact HK.out.bbelow hw4); rintro e w5 ⟨rfl, hb5⟩; have hx5 := hx4.next hb5 (by omega); have r0 := (hb5.cell (by simp; omega)).trans q0; have r1 := (hb5.cell (by simp; omega)).trans q1; have r2 := (hb5.cell (by simp; omega)).trans q2; rw [HiA.out, HiB.out]; clear hb5))
          go_ret
          exact ⟨ret_int (by rw [Hbd.out]), Hb1.out.next hx5 (by omega)⟩
        · rcases Bool.eq_false_or_eq_true (u != xr) with h1 | h1
          · have Hbd := Lib.hid (Hbad.out (by rw [Hst2.out, h1]; simp))
            clear Hst2 Hbad Hgood
            cases u <;> cases xr <;> first | exact absurd h1 (by decide) | skip
            all_goals
              go_wp2_with (first
                | (go_at_call 80; (with_reducible refine (pathBit_ok _ D k dc xn ?hq).mono ?_); (case hq => (refine Hk.out.bbelow (Below.next Hb1.out ?_ (by omega)); repeat' (first | exact Below.refl _ _ | assumption | refine Below.drew ?_ | refine below_drewN ?_ _ | refine Below.alloc ?_ (by first | exact Nat.le_refl _ | omega | (simp; done) | (simp; omega)) _))); rintro e w4 ⟨rfl, hb4⟩; obtain ⟨q0, q1, q2, hx4, hz4, q3, hw4⟩ := Hx.out w4 (hb4.mono (by simp)); rw [HmA.out, HmB.out]; clear hb4)
                | (go_at_call 80; (with_reducible refine (pathBit_ok _ K p.pair.1 a xn ?hq).mono ?_); (case hq => exact HK.out.bbelow hw4); rintro e w5 ⟨rfl, hb5⟩; have hx5 := hx4.next hb5 (by omega); have r0 := (hb5.cell (by simp; omega)).trans q0; have r1 := (hb5.cell (by simp; omega)).trans q1; have r2 := (hb5.cell (by simp; omega)).trans q2; rw [HiA.out, HiB.out]; clear hb5))
              go_ret
              exact ⟨ret_int (by rw [Hbd.out]), Hb1.out.next hx5 (by omega)⟩
          · rcases Bool.eq_false_or_eq_true (v != xr) with h2 | h2
            · have Hbd := Lib.hid (Hbad.out (by rw [Hst2.out, h2]; simp))
              clear Hst2 Hbad Hgood
              cases u <;> cases xr <;> cases v <;> first | exact absurd h1 (by decide) | exact absurd h2 (by decide) | skip
              all_goals
                go_wp2_with (first
                  | (go_at_call 80; (with_reducible refine (pathBit_ok _ D k dc xn ?hq).mono ?_); (case hq => (refine Hk.out.bbelow (Below.next Hb1.out ?_ (by omega)); repeat' (first | exact Below.refl _ _ | assumption | refine Below.drew ?_ | refine below_drewN ?_ _ | refine Below.alloc ?_ (by first | exact Nat.le_refl _ | omega | (simp; done) | (simp; omega)) _))); rintro e w4 ⟨rfl, hb4⟩; obtain ⟨q0, q1, q2, hx4, hz4, q3, hw4⟩ := Hx.out w4 (hb4.mono (by simp)); rw [HmA.out, HmB.out]; clear hb4)
                  | (go_at_call 80; (with_reducible refine (pathBit_ok _ K p.pair.1 a xn ?hq).mono ?_); (case hq => exact HK.out.bbelow hw4); rintro e w5 ⟨rfl, hb5⟩; have hx5 := hx4.next hb5 (by omega); have r0 := (hb5.cell (by simp; omega)).trans q0; have r1 := (hb5.cell (by simp; omega)).trans q1; have r2 := (hb5.cell (by simp; omega)).trans q2; rw [HiA.out, HiB.out]; clear hb5))
                go_ret
                exact ⟨ret_int (by rw [Hbd.out]), Hb1.out.next hx5 (by omega)⟩
            · by_cases hl : xo.length = 32
              · have hl' : ((xo.length : Int) != 32) = false := by simp [hl]
                have Hgd := Lib.hid (Hgood.out (by rw [Hst2.out, ho, h1, h2]; simp [hl]))
                clear hl Hst2 Hbad Hgood
                cases u <;> cases xr <;> cases v <;> first | exact absurd h1 (by decide) | exact absurd h2 (by decide) | skip
                all_goals
                  go_wp2_with (first
                    | (go_at_call 80; (with_reducible refine (pathBit_ok _ D k dc xn ?hq).mono ?_); (case hq => (refine Hk.out.bbelow (Below.next Hb1.out ?_ (by omega)); repeat' (first | exact Below.refl _ _ | assumption | refine Below.drew ?_ | refine below_drewN ?_ _ | refine Below.alloc ?_ (by first | exact Nat.le_refl _ | omega | (simp; done) | (simp; omega)) _))); rintro e w4 ⟨rfl, hb4⟩; obtain ⟨q0, q1, q2, hx4, hz4, q3, hw4⟩ := Hx.out w4 (hb4.mono (by simp)); rw [HmA.out, HmB.out]; clear hb4)
                    | (go_at_call 80; (with_reducible refine (pathBit_ok _ K p.pair.1 a xn ?hq).mono ?_); (case hq => exact HK.out.bbelow hw4); rintro e w5 ⟨rfl, hb5⟩; have hx5 := hx4.next hb5 (by omega); have r0 := (hb5.cell (by simp; omega)).trans q0; have r1 := (hb5.cell (by simp; omega)).trans q1; have r2 := (hb5.cell (by simp; omega)).trans q2; rw [HiA.out, HiB.out]; clear hb5))
                  go_roundw
                  case rel => exact ⟨j + 1, by omega, by go_num, by rw [Hpb.out], Hgd.out, Hbel.out.next hx5 (by omega)⟩
                  case measure => simp [intOf]; omega
              · have hl' : ((xo.length : Int) != 32) = true := by simp; omega
                have Hbd := Lib.hid (Hbad.out (by rw [Hst2.out]; simp [hl]))
                clear hl Hst2 Hbad Hgood
                cases u <;> cases xr <;> cases v <;> first | exact absurd h1 (by decide) | exact absurd h2 (by decide) | skip
                all_goals
                  go_wp2_with (first
                    | (go_at_call 80; (with_reducible refine (pathBit_ok _ D k dc xn ?hq).mono ?_); (case hq => (refine Hk.out.bbelow (Below.next Hb1.out ?_ (by omega)); repeat' (first | exact Below.refl _ _ | assumption | refine Below.drew ?_ | refine below_drewN ?_ _ | refine Below.alloc ?_ (by first | exact Nat.le_refl _ | omega | (simp; done) | (simp; omega)) _))); rintro e w4 ⟨rfl, hb4⟩; obtain ⟨q0, q1, q2, hx4, hz4, q3, hw4⟩ := Hx.out w4 (hb4.mono (by simp)); rw [HmA.out, HmB.out]; clear hb4)
                    | (go_at_call 80; (with_reducible refine (pathBit_ok _ K p.pair.1 a xn ?hq).mono ?_); (case hq => exact HK.out.bbelow hw4); rintro e w5 ⟨rfl, hb5⟩; have hx5 := hx4.next hb5 (by omega); have r0 := (hb5.cell (by simp; omega)).trans q0; have r1 := (hb5.cell (by simp; omega)).trans q1; have r2 := (hb5.cell (by simp; omega)).trans q2; rw [HiA.out, HiB.out]; clear hb5))
                  go_ret
                  exact ⟨ret_int (by rw [Hbd.out]), Hb1.out.next hx5 (by omega)⟩
      · have hx0 : ¬ (0 ≤ xb ∧ xb ≤ 144) := by intro h; simp [h] at hr
        have Hbd := Lib.hid (Hbad.out (by unfold stepBad; rw [hr]; rfl))
        have HmA := Lib.hid (bitS_out Hkf.out hx0).1
        have HmB := Lib.hid (bitS_out Hkf.out hx0).2
        have HiA := Lib.hid (bitS_out Hpk.out hx0).1
        have HiB := Lib.hid (bitS_out Hpk.out hx0).2
        clear hr hx0
        go_wp2_with (first
          | (go_at_call 80; (with_reducible refine (pathBit_ok _ D k dc xb ?hq).mono ?_); (case hq => (refine Hk.out.bbelow (Below.next Hb1.out ?_ (by omega)); repeat' (first | exact Below.refl _ _ | assumption | refine Below.drew ?_ | refine below_drewN ?_ _ | refine Below.alloc ?_ (by first | exact Nat.le_refl _ | omega | (simp; done) | (simp; omega)) _))); rintro e w4 ⟨rfl, hb4⟩; obtain ⟨q0, q1, q2, hx4, hz4, q3, hw4⟩ := Hx.out w4 (hb4.mono (by simp)); rw [HmA.out, HmB.out]; clear hb4)
          | (go_at_call 80; (with_reducible refine (pathBit_ok _ K p.pair.1 a xb ?hq).mono ?_); (case hq => exact HK.out.bbelow hw4); rintro e w5 ⟨rfl, hb5⟩; have hx5 := hx4.next hb5 (by omega); have r0 := (hb5.cell (by simp; omega)).trans q0; have r1 := (hb5.cell (by simp; omega)).trans q1; have r2 := (hb5.cell (by simp; omega)).trans q2; rw [HiA.out, HiB.out]; clear hb5))
        go_ret
        exact ⟨ret_int (by rw [Hbd.out]), Hb1.out.next hx5 (by omega)⟩
    · go_wp2
      go_ret
      obtain rfl : j = p.steps.length := by omega
      have h := Hval.out
      rw [Nat.sub_self] at h
      exact ⟨ret_int (by rw [Hv.out, ← h]; rfl), Hb1.out⟩
end Go.Proofs.YteacjkihjeiafaaDoor
namespace Go.Proofs.YteacjkihjeiafaaDoor
open Go.RowKit
set_option linter.unusedVariables false
set_option linter.unusedSimpArgs false

theorem proofCheck_ok (w : World) (D : Option Addr) (k : List UInt8) (dc : Nat) (A K V : Option Addr) (p : Pf) (n a b : Nat) (hk : Bs All w D k) (ha : Sts All w A p.steps) (hK : Bs All w K p.pair.1) (hV : Bs All w V p.pair.2) (hst : p.steps.length * 40 ≤ 140737488355328) (hl1 : p.pair.1.length ≤ big) (hl2 : p.pair.2.length ≤ big) :
    Calls Tryd.prog 65 #[.slice D k.length dc, .agg #[.bool p.empty, .slice A p.steps.length n, .slice K p.pair.1.length a, .slice V p.pair.2.length b]] w (RetV w (.int .i64 (proofFaultS k p))) := by
  by_cases hkf : keyFault k = 0
  · rw [proofFault_key hkf]
    by_cases he : p.empty = true
    · rw [he]
      exact proofCheck_empty w D k dc A K V p n a b hk ha hK hV hst hl1 hl2 hkf he
    · have he' : p.empty = false := by simpa using he
      rw [he']
      by_cases hp : pairFaultS p.pair = 0
      · exact proofCheck_good w D k dc A K V p n a b hk ha hK hV hst hl1 hl2 hkf he' hp
      · exact proofCheck_bad w D k dc A K V p n a b hk ha hK hV hst hl1 hl2 hkf he' hp
  · exact proofCheck_key w D k dc A K V p n a b hk ha hK hV hst hl1 hl2 hkf
end Go.Proofs.YteacjkihjeiafaaDoor
namespace Go.Proofs.YteacjkihjeiafaaDoor
open Go.RowKit
set_option linter.unusedVariables false
set_option linter.unusedSimpArgs false

set_option maxRecDepth 100000 in
set_option maxHeartbeats 4000000 in
theorem sameProof_ok (w : World) (A K V A' K' V' : Option Addr) (p : Pf) (n a b n' a' b' : Nat) (ha : Sts All w A p.steps) (hK : Bs All w K p.pair.1) (hV : Bs All w V p.pair.2) (ha' : Sts All w A' p.steps) (hK' : Bs All w K' p.pair.1) (hV' : Bs All w V' p.pair.2) (hst : p.steps.length * 40 ≤ 140737488355328) :
    Calls Tryd.prog 16 #[.agg #[.bool p.empty, .slice A p.steps.length n, .slice K p.pair.1.length a, .slice V p.pair.2.length b], .agg #[.bool p.empty, .slice A' p.steps.length n', .slice K' p.pair.1.length a', .slice V' p.pair.2.length b']] w (RetV w (.bool true)) := by
  have Ha := Lib.hid ha
  have HK := Lib.hid hK
  have HV := Lib.hid hV
  have Ha' := Lib.hid ha'
  have HK' := Lib.hid hK'
  have HV' := Lib.hid hV'
  have Hst := Lib.hid hst
  clear ha hK hV ha' hK' hV' hst
  obtain ⟨hx, hy, hsz, hbl⟩ := two_new w (.cells #[.bool p.empty, .slice A p.steps.length n, .slice K p.pair.1.length a, .slice V p.pair.2.length b] 27) (.cells #[.bool p.empty, .slice A' p.steps.length n', .slice K' p.pair.1.length a', .slice V' p.pair.2.length b'] 27)
  have Hx := Lib.hid hx
  have Hy := Lib.hid hy
  have Hbl := Lib.hid hbl
  have Hsz := Lib.hid hsz
  clear hx hy hbl hsz
  go_enter Tryd.func16, Tryd.ntmps16
  go_wp2_with (go_at_call 47; refine (samePair_ok _ K V K' V' p.pair a b a' b' (HK.out.bbelow Hbl.out) (HV.out.bbelow Hbl.out) (HK'.out.bbelow Hbl.out) (HV'.out.bbelow Hbl.out)).mono ?_; rintro e w1 ⟨rfl, hb1⟩; have hz1 := hb1.size; obtain ⟨g0, g1, g2, g3, _⟩ := box4p ((hb1.block w.heap.size (by first | (simp; done) | omega | (simp; omega))).trans Hx.out); obtain ⟨d0, d1, d2, d3, _⟩ := box4p ((hb1.block (w.heap.size + 1) (by first | (simp; done) | omega | (simp; omega))).trans Hy.out))
  rw [Hsz.out] at hz1
  have hsz := Hsz.out
  have Hx1 := Lib.hid ((hb1.block _ (by omega)).trans Hx.out)
  have Hy1 := Lib.hid ((hb1.block _ (by omega)).trans Hy.out)
  have Hb1 := Lib.hid (Hbl.out.next hb1 (by omega))
  clear hb1 hsz Hsz Hx Hy Hbl g0 g1 g2 g3 d0 d1 d2 d3
  go_loopw [5] (fun i wr => ∃ k : Nat, k ≤ p.steps.length ∧ i = .int .i64 k ∧ Below w1.heap.size w1 wr) (fun i _ => p.steps.length - (intOf i).toNat)
  case atStart => exact ⟨0, by omega, rfl, Below.refl _ _⟩
  case round =>
    obtain ⟨k, hk, rfl, hbel⟩ := hrel
    have Hbel := Lib.hid hbel
    have hbz := hbel.size
    have Hbw := Lib.hid (Hb1.out.next hbel (by omega))
    obtain ⟨g0, g1, g2, g3, _⟩ := box4p ((hbel.block w.heap.size (by omega)).trans Hx1.out)
    obtain ⟨d0, d1, d2, d3, _⟩ := box4p ((hbel.block (w.heap.size + 1) (by omega)).trans Hy1.out)
    clear hbel
    by_cases hlt : k < p.steps.length
    · obtain ⟨g, off, B, c, rfl, _, hal, hc1, hc2, hc3, hs1, hb1⟩ := sts_at (Ha.out.below stR_stays Hbw.out) hlt
      obtain ⟨g', off', B', c', rfl, _, hal', hd1, hd2, hd3, hs1', hb1'⟩ := sts_at (Ha'.out.below stR_stays Hbw.out) hlt
      generalize p.steps[k] = x at *
      have Hs1 := Lib.hid hs1.bz
      have Hs2 := Lib.hid hs1'.bz
      have hi0 : (0 : Int) ≤ (k : Int) := by omega
      have hi1 : (k : Int) < (p.steps.length : Int) := by omega
      have Hlt := Lib.hid hlt
      have hlb : p.steps.length ≤ 3518437208883 := by have := Hst.out; omega
      clear hs1 hs1' hb1 hb1'
      go_wp2_with fail
      go_quiet ((go_at_call 29; exact Calls.quiet_of_same ((sameBytes_ok _ B B' x.other x.other c c' (Hs1.out.bsame (by repeat' (first | exact Same.refl _ _ | assumption | refine Same.drew ?_ | refine Same.drewN ?_ _ | refine Same.alloc ?_ _ | refine Same.setCell ?_ (fun hq => by simp only [From] at hq; first | omega | (simp at hq; done) | (simp at hq; omega)) _))) (Hs2.out.bsame (by repeat' (first | exact Same.refl _ _ | assumption | refine Same.drew ?_ | refine Same.drewN ?_ _ | refine Same.alloc ?_ _ | refine Same.setCell ?_ (fun hq => by simp only [From] at hq; first | omega | (simp at hq; done) | (simp at hq; omega)) _)))).mono fun e w' h => ⟨h.1, h.2.symm⟩)))
      go_wp2
      go_roundw
      case rel => exact ⟨k + 1, by have := Hlt.out; omega, by go_num, below_drewN Hbel.out _⟩
      case measure => have := Hlt.out; simp [intOf]; omega
    · go_wp2
      go_ret
      exact ⟨rfl, Hbw.out⟩

end Go.Proofs.YteacjkihjeiafaaDoor
