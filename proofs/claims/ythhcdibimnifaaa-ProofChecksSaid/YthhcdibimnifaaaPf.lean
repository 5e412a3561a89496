/- Proofs: words for memory; what is refused of one, by the references. -/
import Derived.Test.YthhcdibimnifaaaPathBit
import Derived.Test.YthhcdibimnifaaaPairs
namespace Go.Proofs.Ythhcdibimnifaaa
open Go.RowKit
set_option linter.unusedVariables false
set_option linter.unusedSimpArgs false

structure St where
  bit : Int
  right : Bool
  other : List UInt8
/-- The three cells of a step. -/
def StR (S : Nat → Prop) (w : World) (cs : List Value) (s : St) : Prop :=
  ∃ A c, cs = [.int .i64 s.bit, .bool s.right, .slice A s.other.length c] ∧ Bs S w A s.other ∧ s.other.length ≤ big
theorem stR_stays : Stays StR :=
  ⟨fun _ _ _ _ _ hb ⟨A, c, h0, h1, h2⟩ => ⟨A, c, h0, h1.bsame hb, h2⟩, fun _ _ _ _ _ hb ⟨A, c, h0, h1, h2⟩ => ⟨A, c, h0, h1.bless hb, h2⟩⟩
abbrev Sts (S : Nat → Prop) (w : World) (A : Option Addr) (l : List St) : Prop := SL 3 StR S w A l
theorem sts_at {S : Nat → Prop} {w : World} {A : Option Addr} {l : List St} (h : Sts S w A l) {k : Nat} (hk : k < l.length) :
    ∃ b off B c, A = some ⟨b, off, none⟩ ∧ S b ∧ b < w.heap.size ∧ w.cell? ⟨b, off + k * 3, none⟩ = some (.int .i64 l[k].bit) ∧ w.cell? ⟨b, off + k * 3 + 1, none⟩ = some (.bool l[k].right) ∧
      w.cell? ⟨b, off + k * 3 + 2, none⟩ = some (.slice B l[k].other.length c) ∧ Bs S w B l[k].other ∧ l[k].other.length ≤ big := by
  obtain ⟨b, off, cs, e, h0, hlt, h1, h2, B, c, rfl, h3, h4⟩ := h.at hk
  exact ⟨b, off, B, c, e, h0, hlt, by simpa using h2 0 (by omega), by simpa using h2 1 (by omega), by simpa using h2 2 (by omega), h3, h4⟩
structure Pf where
  empty : Bool
  steps : List St
  pair : Pr
/-- The four cells of a proof. -/
def PfR (S : Nat → Prop) (w : World) (cs : List Value) (p : Pf) : Prop :=
  ∃ A n K a V b, cs = [.bool p.empty, .slice A p.steps.length n, .slice K p.pair.1.length a, .slice V p.pair.2.length b] ∧ Sts S w A p.steps ∧ Bs S w K p.pair.1 ∧ Bs S w V p.pair.2 ∧ p.steps.length * 40 ≤ 140737488355328 ∧ p.pair.1.length ≤ big ∧ p.pair.2.length ≤ big
theorem box3p {w : World} {g : Nat} {t : TypeId} {a b c : Value} (h : w.heap[g]? = some (.cells #[a, b, c] t (0, 0))) :
    w.cell? ⟨g, 0, none⟩ = some a ∧ w.cell? ⟨g, 1, none⟩ = some b ∧ w.cell? ⟨g, 2, none⟩ = some c ∧ w.frozen? ⟨g, 0, none⟩ = false ∧ w.frozen? ⟨g, 1, none⟩ = false ∧ w.frozen? ⟨g, 2, none⟩ = false :=
  ⟨box_cell (cs := [a, b, c]) h 0, box_cell (cs := [a, b, c]) h 1, box_cell (cs := [a, b, c]) h 2, box_frozen (cs := [a, b, c]) h 0, box_frozen (cs := [a, b, c]) h 1, box_frozen (cs := [a, b, c]) h 2⟩
theorem box4p {w : World} {g : Nat} {t : TypeId} {a b c d : Value} (h : w.heap[g]? = some (.cells #[a, b, c, d] t (0, 0))) :
    w.cell? ⟨g, 0, none⟩ = some a ∧ w.cell? ⟨g, 1, none⟩ = some b ∧ w.cell? ⟨g, 2, none⟩ = some c ∧ w.cell? ⟨g, 3, none⟩ = some d ∧ w.frozen? ⟨g, 0, none⟩ = false ∧ w.frozen? ⟨g, 1, none⟩ = false ∧ w.frozen? ⟨g, 2, none⟩ = false ∧ w.frozen? ⟨g, 3, none⟩ = false :=
  ⟨box_cell (cs := [a, b, c, d]) h 0, box_cell (cs := [a, b, c, d]) h 1, box_cell (cs := [a, b, c, d]) h 2, box_cell (cs := [a, b, c, d]) h 3, box_frozen (cs := [a, b, c, d]) h 0, box_frozen (cs := [a, b, c, d]) h 1, box_frozen (cs := [a, b, c, d]) h 2, box_frozen (cs := [a, b, c, d]) h 3⟩

/-- What is wrong with a step behind one that stands at bit 'prev'. -/
def stepBad (k p : List UInt8) (prev : Int) (s : St) : Bool :=
  !(decide (0 ≤ s.bit) && decide (s.bit ≤ 144)) || s.other.length != 32 || decide (s.bit ≤ prev) || bitB k s.bit.toNat != s.right || bitB p s.bit.toNat != s.right
def prevBit (l : List St) (i : Nat) : Int := if i = 0 then -1 else (l.getD (i - 1) ⟨0, false, []⟩).bit
def stepAt (k p : List UInt8) (l : List St) (i : Nat) : Int := if stepBad k p (prevBit l i) (l.getD i ⟨0, false, []⟩) then 4 else 0
def stepsFault (k p : List UInt8) (l : List St) : Int := firstBad (stepAt k p l) l.length 0
def mayFault (k : List UInt8) (p : Pf) : Int :=
  if p.empty then (if p.steps.length = 0 ∧ p.pair.1.length = 0 ∧ p.pair.2.length = 0 then 0 else 4) else if pairFaultS p.pair ≠ 0 then 4 else stepsFault k p.pair.1 p.steps
/-- What ProofFault and proof.Check answer. -/
def proofFaultS (k : List UInt8) (p : Pf) : Int := if keyFault k ≠ 0 then keyFault k else mayFault k p
theorem prevBit_zero (l : List St) : prevBit l 0 = -1 := rfl
theorem prevBit_succ {l : List St} {i : Nat} (h : i < l.length) : prevBit l (i + 1) = l[i].bit := by simp [prevBit, h]
theorem stepAt_eq (k p : List UInt8) {l : List St} {i : Nat} (h : i < l.length) : stepAt k p l i = if stepBad k p (prevBit l i) l[i] then 4 else 0 := by simp [stepAt, h]
theorem firstBad_04 {f : Nat → Int} (h : ∀ i, f i = 0 ∨ f i = 4) : ∀ n k, firstBad f n k = 0 ∨ firstBad f n k = 4
  | 0, _ => .inl rfl
  | n + 1, k => by
    unfold firstBad
    split
    · exact h k
    · exact firstBad_04 h n (k + 1)
theorem stepsFault_04 (k p : List UInt8) (l : List St) : stepsFault k p l = 0 ∨ stepsFault k p l = 4 := firstBad_04 (fun i => by unfold stepAt; split <;> simp) _ _
theorem mayFault_04 (k : List UInt8) (p : Pf) : mayFault k p = 0 ∨ mayFault k p = 4 := by
  unfold mayFault
  split
  · split <;> simp
  · split
    · simp
    · exact stepsFault_04 _ _ _

set_option maxRecDepth 100000 in
set_option maxHeartbeats 4000000 in
theorem proofMay_ok (w : World) (D : Option Addr) (k : List UInt8) (dc : Nat) (A K V : Option Addr) (p : Pf) (n a b : Nat) (hk : Bs All w D k) (ha : Sts All w A p.steps) (hK : Bs All w K p.pair.1) (hk16 : k.length ≤ 16) (hst : p.steps.length * 40 ≤ 140737488355328) :
    Calls Try.prog 148 #[.slice D k.length dc, .agg #[.bool p.empty, .slice A p.steps.length n, .slice K p.pair.1.length a, .slice V p.pair.2.length b]] w (RetV w (.bool (mayFault k p == 0))) := by
  have Hk := Lib.hid hk
  have Ha := Lib.hid ha
  have HK := Lib.hid hK
  clear hk ha hK
  by_cases he : p.empty = true
  · have Hv := Lib.hid (show (mayFault k p == 0) = ((decide (p.steps.length = 0) && decide (p.pair.1.length = 0)) && decide (p.pair.2.length = 0)) by
      unfold mayFault
      rw [if_pos he]
      by_cases h1 : p.steps.length = 0 <;> by_cases h2 : p.pair.1.length = 0 <;> by_cases h3 : p.pair.2.length = 0 <;> simp_all)
    rw [he]
    by_cases h1 : p.steps.length = 0 <;> by_cases h2 : p.pair.1.length = 0 <;> by_cases h3 : p.pair.2.length = 0
    all_goals
      have c1 := congrArg (fun x : Nat => ((x : Int) == 0)) (rfl : p.steps.length = p.steps.length)
      go_enter Try.func148, Try.ntmps148
      go_wp2
      go_ret
      exact ⟨ret_bool (by rw [Hv.out]; simp_all), by repeat' (first | exact Below.refl _ _ | assumption | refine Below.drew ?_ | refine below_drewN ?_ _ | refine Below.alloc ?_ (by first | exact Nat.le_refl _ | omega | (simp; done) | (simp; omega)) _)⟩
  · have he' : p.empty = false := by simpa using he
    rw [he']
    by_cases hp : pairFaultS p.pair = 0
    · have hp' : (pairFaultS p.pair != 0) = false := by simp [hp]
      have HP16 := Lib.hid (show p.pair.1.length ≤ 16 by unfold pairFaultS at hp; split at hp <;> first | omega | exact key16 hp)
      have Hv := Lib.hid (show mayFault k p = stepsFault k p.pair.1 p.steps by unfold mayFault; rw [if_neg (by simp [he']), if_neg (by simpa using hp)])
      have Hlk := Lib.hid (all145_len hk16)
      have Hlp := Lib.hid (all145_len HP16.out)
      have Hbox := Lib.hid (show ∀ W, Below (w.heap.size + 1) (w.alloc (.cells #[.bool false, .slice A p.steps.length n, .slice K p.pair.1.length a, .slice V p.pair.2.length b] 105)) W → W.cell? ⟨w.heap.size, 1, none⟩ = some (.slice A p.steps.length n) ∧ W.cell? ⟨w.heap.size, 2, none⟩ = some (.slice K p.pair.1.length a) ∧ Below w.heap.size w W ∧ w.heap.size + 1 ≤ W.heap.size from fun W hW => by
        obtain ⟨g0, g1, g2, g3, _⟩ := box4p ((hW.block _ (by omega)).trans (box_new w _ _))
        exact ⟨g1, g2, ((Below.refl w.heap.size w).alloc (Nat.le_refl _) _).trans (hW.mono (by omega)), by simpa using hW.size⟩)
      clear hp
      go_enter Try.func148, Try.ntmps148
      go_wp2_with (first
        | (go_at_call 101; refine (pairFault_ok _ K V p.pair a b).mono ?_; rintro e w1 ⟨rfl, hb1'⟩; have hb1 := hb1'.mono (show w.heap.size + 1 ≤ _ by simp); obtain ⟨g0, g1, hw1, hz1⟩ := Hbox.out w1 hb1; clear hb1')
        | (go_at_call 159; (with_reducible refine (allBits_ok _ D k dc ?hq hk16).mono ?_); (case hq => exact Hk.out.bbelow hw1); rintro e w2 ⟨A2, c2, rfl, hs2, hb2⟩; obtain ⟨bm, om, rfl, hmlt, _⟩ := bit_at hs2 hk16 (n := 0) (by omega); obtain ⟨g2, g3, hw2, hz2⟩ := Hbox.out w2 (hb1.next hb2 hz1); rw [Hlk.out])
        | (go_at_call 159; (with_reducible refine (allBits_ok _ K p.pair.1 a ?hq HP16.out).mono ?_); (case hq => exact HK.out.bbelow hw2); rintro e w3 ⟨A3, c3, rfl, hs3, hb3⟩; obtain ⟨bi, oi, rfl, hilt, _⟩ := bit_at hs3 HP16.out (n := 0) (by omega); rw [Hlp.out]))
      have Hbw3 := Lib.hid ((hb1.next hb2 hz1).next hb3 hz2)
      have Hm := Lib.hid ((hs2.z boolR_stays).below boolR_stays hb3)
      have Hi := Lib.hid (hs3.z boolR_stays)
      have Hmlt := Lib.hid (Nat.lt_of_lt_of_le hmlt hb3.size)
      have Hilt := Lib.hid hilt
      clear hb1 hb2 hb3 hs2 hs3 hmlt hilt g0 g1 g2 g3 hw1 hw2 hz1 hz2 Hlk Hlp hp'
      go_loopw [7] (fun i wr => ∃ j : Nat, j ≤ p.steps.length ∧ i = .int .i64 j ∧ firstBad (stepAt k p.pair.1 p.steps) (p.steps.length - j) j = stepsFault k p.pair.1 p.steps ∧ Below w3.heap.size w3 wr) (fun i _ => p.steps.length - (intOf i).toNat)
      case atStart => exact ⟨0, by omega, rfl, rfl, Below.refl _ _⟩
      case round =>
        obtain ⟨j, hj, rfl, hval, hbel⟩ := hrel
        have Hbel := Lib.hid hbel
        have Hval := Lib.hid hval
        have hz3 := Hmlt.out
        have hzz := hbel.size
        obtain ⟨g1, g2, hb1, hz1⟩ := Hbox.out wr (Hbw3.out.next hbel (by have := (Hbox.out w3 Hbw3.out).2.2.2; omega))
        have Hb1 := Lib.hid hb1
        clear hbel hval hb1
        by_cases hlt : j < p.steps.length
        · have Hstep := Lib.hid (firstBad_at (stepAt k p.pair.1 p.steps) hlt)
          have Heq := Lib.hid (stepAt_eq k p.pair.1 hlt)
          obtain ⟨g, off, B, c, hX, _, hal, hc1, hc2, hc3, _, _⟩ := sts_at (Ha.out.below stR_stays Hb1.out) hlt
          have Hbad0 := Lib.hid (show stepBad k p.pair.1 (prevBit p.steps j) p.steps[j] = true → mayFault k p = 4 from fun h => by rw [Hv.out, ← Hval.out, Hstep.out, Heq.out, if_pos h]; rfl)
          have Hgood0 := Lib.hid (show stepBad k p.pair.1 (prevBit p.steps j) p.steps[j] = false → firstBad (stepAt k p.pair.1 p.steps) (p.steps.length - (j + 1)) (j + 1) = stepsFault k p.pair.1 p.steps from fun h => by rw [← Hval.out, Hstep.out, Heq.out, if_neg (by rw [h]; decide)])
          clear Hstep Heq Hval
          rcases j with _ | m
          · simp only [Nat.zero_mul, Nat.add_zero] at hc1 hc2 hc3
            rw [prevBit_zero] at Hbad0 Hgood0
            generalize p.steps[0] = x at *
            obtain ⟨xb, xr, xo⟩ := x
            dsimp only at hc1 hc2 hc3
            have Hbad := Lib.hid Hbad0.out
            have Hgood := Lib.hid Hgood0.out
            subst hX
            clear Hbad0 Hgood0
            rcases Bool.eq_false_or_eq_true (decide (0 ≤ xb) && decide (xb ≤ 144)) with hr | hr
            · have hx0 : 0 ≤ xb ∧ xb ≤ 144 := by simpa using hr
              obtain ⟨xn, rfl⟩ : ∃ n : Nat, xb = n := ⟨xb.toNat, by omega⟩
              have h145 : (xn : Int) < 145 := by omega
              have hn0 : (0 : Int) ≤ (xn : Int) := by omega
              have Hr := Lib.hid hr
              clear hr hx0
              by_cases hl : xo.length = 32
              · have hl' : ((xo.length : Int) != 32) = false := by simp [hl]
                have Hl := Lib.hid (show (xo.length != 32) = false by simp [hl])
                clear hl
                have ho : decide ((xn : Int) ≤ -1) = false := by rw [decide_eq_false_iff_not]; omega
                obtain ⟨_, _, em, _, hcm⟩ := bit_at (Hm.out.below boolR_stays Hbel.out) hk16 (n := xn) (by omega)
                cases em
                obtain ⟨_, _, ei, _, hci⟩ := bit_at (Hi.out.below boolR_stays Hbel.out) HP16.out (n := xn) (by omega)
                cases ei
                have hcm' := ((Below.refl _ _).alloc (Nat.le_refl _) (.cells #[.int .i64 xn, .bool xr, .slice B xo.length c] 149)).cell (w := wr) (p := ⟨bm, om + xn, none⟩) (by have := Hmlt.out; simp; omega) |>.trans hcm
                have hci' := ((Below.refl _ _).alloc (Nat.le_refl _) (.cells #[.int .i64 xn, .bool xr, .slice B xo.length c] 149)).cell (w := wr) (p := ⟨bi, oi + xn, none⟩) (by have := Hilt.out; simp; omega) |>.trans hci
                have ex : (xn : Int).toNat = xn := by simp
                have Hbad2 := Lib.hid (show ∀ u v : Bool, u = bitB k xn → v = bitB p.pair.1 xn → (u != xr) = true ∨ ((u != xr) = false ∧ (v != xr) = true) → mayFault k p = 4 from fun u v hu hv h => Hbad.out (by unfold stepBad; rw [Hr.out]; dsimp only; rw [Hl.out, ho, ex, ← hu, ← hv]; rcases h with h | ⟨h, h'⟩ <;> rw [h] <;> first | rfl | (rw [h']; rfl)))
                have Hgood2 := Lib.hid (show ∀ u v : Bool, u = bitB k xn → v = bitB p.pair.1 xn → (u != xr) = false → (v != xr) = false → _ from fun u v hu hv h h' => Hgood.out (by unfold stepBad; rw [Hr.out]; dsimp only; rw [Hl.out, ho, ex, ← hu, ← hv, h, h']; rfl))
                generalize hu : bitB k xn = u at *
                generalize hv : bitB p.pair.1 xn = v at *
                have Hbad3 := Lib.hid (Hbad2.out u v rfl rfl)
                have Hgood3 := Lib.hid (Hgood2.out u v rfl rfl)
                clear Hbad2 Hgood2 Hbad Hgood hcm hci ex hu hv ho
                rcases Bool.eq_false_or_eq_true (u != xr) with h1 | h1
                · have Hbd := Lib.hid (Hbad3.out (.inl h1))
                  clear Hbad3 Hgood3
                  cases u <;> cases xr <;> first | exact absurd h1 (by decide) | skip
                  all_goals
                    go_wp2_with fail
                    go_quiet ((go_at_call 114; exact Calls.quiet_of_same ((in_ok _ (xn : Int) 0 144).mono fun e w' h => ⟨h.1.trans (ret_bool Hr.out), h.2.symm⟩)))
                    go_wp2_with fail
                    (try go_quiet (fail))
                    (try go_wp2)
                    go_ret
                    exact ⟨ret_bool (by rw [Hbd.out]; rfl), (by refine Below.next Hb1.out ?_ (by omega); repeat' (first | exact Below.refl _ _ | assumption | refine Below.drew ?_ | refine below_drewN ?_ _ | refine Below.setCell ?_ (by first | (simp; done) | omega | (simp; omega)) _ | refine Below.alloc ?_ (by first | exact Nat.le_refl _ | omega | (simp; done) | (simp; omega)) _))⟩
                · rcases Bool.eq_false_or_eq_true (v != xr) with h2 | h2
                  · have Hbd := Lib.hid (Hbad3.out (.inr ⟨h1, h2⟩))
                    clear Hbad3 Hgood3
                    cases u <;> cases xr <;> cases v <;> first | exact absurd h1 (by decide) | exact absurd h2 (by decide) | skip
                    all_goals
                      go_wp2_with fail
                      go_quiet ((go_at_call 114; exact Calls.quiet_of_same ((in_ok _ (xn : Int) 0 144).mono fun e w' h => ⟨h.1.trans (ret_bool Hr.out), h.2.symm⟩)))
                      go_wp2_with fail
                      (try go_quiet (fail))
                      (try go_wp2)
                      go_ret
                      exact ⟨ret_bool (by rw [Hbd.out]; rfl), (by refine Below.next Hb1.out ?_ (by omega); repeat' (first | exact Below.refl _ _ | assumption | refine Below.drew ?_ | refine below_drewN ?_ _ | refine Below.setCell ?_ (by first | (simp; done) | omega | (simp; omega)) _ | refine Below.alloc ?_ (by first | exact Nat.le_refl _ | omega | (simp; done) | (simp; omega)) _))⟩
                  · have Hgd := Lib.hid (Hgood3.out h1 h2)
                    clear Hbad3 Hgood3
                    cases u <;> cases xr <;> cases v <;> first | exact absurd h1 (by decide) | exact absurd h2 (by decide) | skip
                    all_goals
                      go_wp2_with fail
                      go_quiet ((go_at_call 114; exact Calls.quiet_of_same ((in_ok _ (xn : Int) 0 144).mono fun e w' h => ⟨h.1.trans (ret_bool Hr.out), h.2.symm⟩)))
                      go_wp2_with fail
                      (try go_quiet (fail))
                      (try go_wp2)
                      go_roundw
                      case rel => exact ⟨0 + 1, by omega, by go_num, Hgd.out, (by refine Below.next Hbel.out ?_ (by omega); repeat' (first | exact Below.refl _ _ | assumption | refine Below.drew ?_ | refine below_drewN ?_ _ | refine Below.setCell ?_ (by first | (simp; done) | omega | (simp; omega)) _ | refine Below.alloc ?_ (by first | exact Nat.le_refl _ | omega | (simp; done) | (simp; omega)) _))⟩
                      case measure => simp [intOf]; omega
              · have hl' : ((xo.length : Int) != 32) = true := by simp; omega
                have Hbd := Lib.hid (Hbad.out (by unfold stepBad; rw [Hr.out]; dsimp only; rw [show (xo.length != 32) = true by simpa using hl]; rfl))
                clear hl
                go_wp2_with fail
                go_quiet ((go_at_call 114; exact Calls.quiet_of_same ((in_ok _ (xn : Int) 0 144).mono fun e w' h => ⟨h.1.trans (ret_bool Hr.out), h.2.symm⟩)))
                go_wp2
                go_ret
                exact ⟨ret_bool (by rw [Hbd.out]; rfl), (by refine Below.next Hb1.out ?_ (by omega); repeat' (first | exact Below.refl _ _ | assumption | refine Below.drew ?_ | refine below_drewN ?_ _ | refine Below.setCell ?_ (by first | (simp; done) | omega | (simp; omega)) _ | refine Below.alloc ?_ (by first | exact Nat.le_refl _ | omega | (simp; done) | (simp; omega)) _))⟩
            · have Hr := Lib.hid hr
              have Hbd := Lib.hid (Hbad.out (by unfold stepBad; rw [Hr.out]; rfl))
              clear hr
              go_wp2_with fail
              go_quiet ((go_at_call 114; exact Calls.quiet_of_same ((in_ok _ xb 0 144).mono fun e w' h => ⟨h.1.trans (ret_bool Hr.out), h.2.symm⟩)))
              go_wp2
              go_ret
              exact ⟨ret_bool (by rw [Hbd.out]; rfl), (by refine Below.next Hb1.out ?_ (by omega); repeat' (first | exact Below.refl _ _ | assumption | refine Below.drew ?_ | refine below_drewN ?_ _ | refine Below.setCell ?_ (by first | (simp; done) | omega | (simp; omega)) _ | refine Below.alloc ?_ (by first | exact Nat.le_refl _ | omega | (simp; done) | (simp; omega)) _))⟩
          · have hm : m < p.steps.length := by omega
            obtain ⟨_, _, _, _, he0, _, _, hc4, _, _, _, _⟩ := sts_at (Ha.out.below stR_stays Hb1.out) hm
            cases hX.symm.trans he0
            rw [prevBit_succ hm] at Hbad0 Hgood0
            generalize p.steps[m + 1] = x at *
            obtain ⟨xb, xr, xo⟩ := x
            generalize p.steps[m] = y at *
            obtain ⟨yb, yr, yo⟩ := y
            dsimp only at hc1 hc2 hc3 hc4 Hbad0 Hgood0
            have Hbad := Lib.hid Hbad0.out
            have Hgood := Lib.hid Hgood0.out
            have hi0 : (0 : Int) ≤ (m : Int) := by omega
            have hi1 : (m : Int) < (p.steps.length : Int) := by omega
            have hk0 : decide ((0 : Int) < (m : Int) + 1) = true := by rw [decide_eq_true_eq]; omega
            have hnew := (Below.refl wr.heap.size wr).alloc (Nat.le_refl _) (.cells #[.int .i64 xb, .bool xr, .slice B xo.length c] 149)
            have g1' := (hnew.cell (p := ⟨w.heap.size, 1, none⟩) (by simp only []; omega)).trans g1
            have hc4' := (hnew.cell (p := ⟨g, off + m * 3, none⟩) (by simp only []; omega)).trans hc4
            clear hnew
            have hiw : IntKind.i64.wrap (m : Int) = (m : Int) := IntWalk.i64_in _ (by omega)
            subst hX
            clear Hbad0 Hgood0 he0
            rcases Bool.eq_false_or_eq_true (decide (0 ≤ xb) && decide (xb ≤ 144)) with hr | hr
            · have hx0 : 0 ≤ xb ∧ xb ≤ 144 := by simpa using hr
              obtain ⟨xn, rfl⟩ : ∃ n : Nat, xb = n := ⟨xb.toNat, by omega⟩
              have h145 : (xn : Int) < 145 := by omega
              have hn0 : (0 : Int) ≤ (xn : Int) := by omega
              have Hr := Lib.hid hr
              clear hr hx0
              by_cases hl : xo.length = 32
              · have hl' : ((xo.length : Int) != 32) = false := by simp [hl]
                have Hl := Lib.hid (show (xo.length != 32) = false by simp [hl])
                clear hl
                rcases Bool.eq_false_or_eq_true (decide ((xn : Int) ≤ yb)) with ho | ho
                · have Hbd := Lib.hid (Hbad.out (by unfold stepBad; rw [Hr.out]; dsimp only; rw [Hl.out, ho]; rfl))
                  go_wp2_with fail
                  go_quiet ((go_at_call 114; exact Calls.quiet_of_same ((in_ok _ (xn : Int) 0 144).mono fun e w' h => ⟨h.1.trans (ret_bool Hr.out), h.2.symm⟩)))
                  go_wp2
                  go_ret
                  exact ⟨ret_bool (by rw [Hbd.out]; rfl), (by refine Below.next Hb1.out ?_ (by omega); repeat' (first | exact Below.refl _ _ | assumption | refine Below.drew ?_ | refine below_drewN ?_ _ | refine Below.setCell ?_ (by first | (simp; done) | omega | (simp; omega)) _ | refine Below.alloc ?_ (by first | exact Nat.le_refl _ | omega | (simp; done) | (simp; omega)) _))⟩
                · skip
                  obtain ⟨_, _, em, _, hcm⟩ := bit_at (Hm.out.below boolR_stays Hbel.out) hk16 (n := xn) (by omega)
                  cases em
                  obtain ⟨_, _, ei, _, hci⟩ := bit_at (Hi.out.below boolR_stays Hbel.out) HP16.out (n := xn) (by omega)
                  cases ei
                  have hcm' := ((Below.refl _ _).alloc (Nat.le_refl _) (.cells #[.int .i64 xn, .bool xr, .slice B xo.length c] 149)).cell (w := wr) (p := ⟨bm, om + xn, none⟩) (by have := Hmlt.out; simp; omega) |>.trans hcm
                  have hci' := ((Below.refl _ _).alloc (Nat.le_refl _) (.cells #[.int .i64 xn, .bool xr, .slice B xo.length c] 149)).cell (w := wr) (p := ⟨bi, oi + xn, none⟩) (by have := Hilt.out; simp; omega) |>.trans hci
                  have ex : (xn : Int).toNat = xn := by simp
                  have Hbad2 := Lib.hid (show ∀ u v : Bool, u = bitB k xn → v = bitB p.pair.1 xn → (u != xr) = true ∨ ((u != xr) = false ∧ (v != xr) = true) → mayFault k p = 4 from fun u v hu hv h => Hbad.out (by unfold stepBad; rw [Hr.out]; dsimp only; rw [Hl.out, ho, ex, ← hu, ← hv]; rcases h with h | ⟨h, h'⟩ <;> rw [h] <;> first | rfl | (rw [h']; rfl)))
                  have Hgood2 := Lib.hid (show ∀ u v : Bool, u = bitB k xn → v = bitB p.pair.1 xn → (u != xr) = false → (v != xr) = false → _ from fun u v hu hv h h' => Hgood.out (by unfold stepBad; rw [Hr.out]; dsimp only; rw [Hl.out, ho, ex, ← hu, ← hv, h, h']; rfl))
                  generalize hu : bitB k xn = u at *
                  generalize hv : bitB p.pair.1 xn = v at *
                  have Hbad3 := Lib.hid (Hbad2.out u v rfl rfl)
                  have Hgood3 := Lib.hid (Hgood2.out u v rfl rfl)
                  clear Hbad2 Hgood2 Hbad Hgood hcm hci ex hu hv
                  rcases Bool.eq_false_or_eq_true (u != xr) with h1 | h1
                  · have Hbd := Lib.hid (Hbad3.out (.inl h1))
                    clear Hbad3 Hgood3
                    cases u <;> cases xr <;> first | exact absurd h1 (by decide) | skip
                    all_goals
                      go_wp2_with fail
                      go_quiet ((go_at_call 114; exact Calls.quiet_of_same ((in_ok _ (xn : Int) 0 144).mono fun e w' h => ⟨h.1.trans (ret_bool Hr.out), h.2.symm⟩)))
                      go_wp2_with fail
                      (try go_quiet (fail))
                      (try go_wp2)
                      go_ret
                      exact ⟨ret_bool (by rw [Hbd.out]; rfl), (by refine Below.next Hb1.out ?_ (by omega); repeat' (first | exact Below.refl _ _ | assumption | refine Below.drew ?_ | refine below_drewN ?_ _ | refine Below.setCell ?_ (by first | (simp; done) | omega | (simp; omega)) _ | refine Below.alloc ?_ (by first | exact Nat.le_refl _ | omega | (simp; done) | (simp; omega)) _))⟩
                  · rcases Bool.eq_false_or_eq_true (v != xr) with h2 | h2
                    · have Hbd := Lib.hid (Hbad3.out (.inr ⟨h1, h2⟩))
                      clear Hbad3 Hgood3
                      cases u <;> cases xr <;> cases v <;> first | exact absurd h1 (by decide) | exact absurd h2 (by decide) | skip
                      all_goals
                        go_wp2_with fail
                        go_quiet ((go_at_call 114; exact Calls.quiet_of_same ((in_ok _ (xn : Int) 0 144).mono fun e w' h => ⟨h.1.trans (ret_bool Hr.out), h.2.symm⟩)))
                        go_wp2_with fail
                        (try go_quiet (fail))
                        (try go_wp2)
                        go_ret
                        exact ⟨ret_bool (by rw [Hbd.out]; rfl), (by refine Below.next Hb1.out ?_ (by omega); repeat' (first | exact Below.refl _ _ | assumption | refine Below.drew ?_ | refine below_drewN ?_ _ | refine Below.setCell ?_ (by first | (simp; done) | omega | (simp; omega)) _ | refine Below.alloc ?_ (by first | exact Nat.le_refl _ | omega | (simp; done) | (simp; omega)) _))⟩
                    · have Hgd := Lib.hid (Hgood3.out h1 h2)
                      clear Hbad3 Hgood3
                      cases u <;> cases xr <;> cases v <;> first | exact absurd h1 (by decide) | exact absurd h2 (by decide) | skip
                      all_goals
                        go_wp2_with fail
                        go_quiet ((go_at_call 114; exact Calls.quiet_of_same ((in_ok _ (xn : Int) 0 144).mono fun e w' h => ⟨h.1.trans (ret_bool Hr.out), h.2.symm⟩)))
                        go_wp2_with fail
                        (try go_quiet (fail))
                        (try go_wp2)
                        go_roundw
                        case rel => exact ⟨(m + 1) + 1, by omega, by go_num, Hgd.out, (by refine Below.next Hbel.out ?_ (by omega); repeat' (first | exact Below.refl _ _ | assumption | refine Below.drew ?_ | refine below_drewN ?_ _ | refine Below.setCell ?_ (by first | (simp; done) | omega | (simp; omega)) _ | refine Below.alloc ?_ (by first | exact Nat.le_refl _ | omega | (simp; done) | (simp; omega)) _))⟩
                        case measure => simp [intOf]; omega
              · have hl' : ((xo.length : Int) != 32) = true := by simp; omega
                have Hbd := Lib.hid (Hbad.out (by unfold stepBad; rw [Hr.out]; dsimp only; rw [show (xo.length != 32) = true by simpa using hl]; rfl))
                clear hl
                go_wp2_with fail
                go_quiet ((go_at_call 114; exact Calls.quiet_of_same ((in_ok _ (xn : Int) 0 144).mono fun e w' h => ⟨h.1.trans (ret_bool Hr.out), h.2.symm⟩)))
                go_wp2
                go_ret
                exact ⟨ret_bool (by rw [Hbd.out]; rfl), (by refine Below.next Hb1.out ?_ (by omega); repeat' (first | exact Below.refl _ _ | assumption | refine Below.drew ?_ | refine below_drewN ?_ _ | refine Below.setCell ?_ (by first | (simp; done) | omega | (simp; omega)) _ | refine Below.alloc ?_ (by first | exact Nat.le_refl _ | omega | (simp; done) | (simp; omega)) _))⟩
            · have Hr := Lib.hid hr
              have Hbd := Lib.hid (Hbad.out (by unfold stepBad; rw [Hr.out]; rfl))
              clear hr
              go_wp2_with fail
              go_quiet ((go_at_call 114; exact Calls.quiet_of_same ((in_ok _ xb 0 144).mono fun e w' h => ⟨h.1.trans (ret_bool Hr.out), h.2.symm⟩)))
              go_wp2
              go_ret
              exact ⟨ret_bool (by rw [Hbd.out]; rfl), (by refine Below.next Hb1.out ?_ (by omega); repeat' (first | exact Below.refl _ _ | assumption | refine Below.drew ?_ | refine below_drewN ?_ _ | refine Below.setCell ?_ (by first | (simp; done) | omega | (simp; omega)) _ | refine Below.alloc ?_ (by first | exact Nat.le_refl _ | omega | (simp; done) | (simp; omega)) _))⟩
        · go_wp2
          go_ret
          obtain rfl : j = p.steps.length := by omega
          have h := Hval.out
          rw [Nat.sub_self] at h
          exact ⟨ret_bool (by rw [Hv.out, ← h]; rfl), Hb1.out⟩
    · have hp' : (pairFaultS p.pair != 0) = true := by simpa using hp
      have Hv := Lib.hid (show (mayFault k p == 0) = false by unfold mayFault; rw [if_neg (by simp [he']), if_pos hp]; rfl)
      clear hp
      go_enter Try.func148, Try.ntmps148
      go_wp2_with (go_at_call 101; refine (pairFault_ok _ K V p.pair a b).mono ?_; rintro e w1 ⟨rfl, hb1⟩)
      go_ret
      exact ⟨ret_bool Hv.out.symm, (by refine Below.next ?_ hb1 (by simp); repeat' (first | exact Below.refl _ _ | assumption | refine Below.drew ?_ | refine below_drewN ?_ _ | refine Below.setCell ?_ (by first | (simp; done) | omega | (simp; omega)) _ | refine Below.alloc ?_ (by first | exact Nat.le_refl _ | omega | (simp; done) | (simp; omega)) _))⟩
end Go.Proofs.Ythhcdibimnifaaa
