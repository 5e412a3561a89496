/- TapeF: Walk: frameAt. The conditions of each are in its words. -/
import Derived.Test.YteacjkihjeiafaaDoorKTapeE
import Derived.Test.YteacjkihjeiafaaDoorKDec
namespace Go.Proofs.YteacjkihjeiafaaDoor
open Go.RowKit
set_option linter.unusedVariables false
set_option linter.unusedSimpArgs false

/-- What frameAt answers at a place. -/
def frE (o : Option (Cm × Nat)) (at' : Nat) : Cm × Int := match o with | none => ((0, []), -1) | some (c, n) => (c, (at' : Int) + n)
theorem frame_long {a b : UInt8} {r : List UInt8} (h : 4000 < 256 * a.toNat + b.toNat + 2 ∨ r.length < 256 * a.toNat + b.toNat + 4) : frameF (a :: b :: r) = none := by
  unfold frameF
  exact if_pos h
theorem frame_none {d : List UInt8} (h : d.length < 6) : frameF d = none := by
  match d, h with
  | [], _ => rfl
  | [_], _ => rfl
  | a :: b :: r, h =>
    simp only [List.length_cons] at h
    unfold frameF
    exact if_pos (.inr (by omega))
theorem bs_byte {S : Nat → Prop} {w : World} {b off : Nat} {l : List UInt8} (h : Bs S w (some ⟨b, off, none⟩) l) {i : Nat} (hi : i < l.length) : w.cell? ⟨b, off + i, none⟩ = some (bv l[i]) := by
  obtain ⟨b', off', cs, e, _, _, hl, hc, hv⟩ := SL.at h hi
  cases e
  have h0 := hc 0 (by omega)
  rw [Nat.mul_one, Nat.add_zero] at h0
  rw [h0]
  match cs, hl with
  | [v], _ => simpa [ByteR] using hv
set_option maxRecDepth 100000 in
set_option maxHeartbeats 600000 in
theorem frameAt_ok (w : World) (A : Option Addr) (d : List UInt8) (c p : Nat) (ha : Bs All w A d) (hc : d.length ≤ c) (hd : d.length ≤ 200000) (hp : p ≤ d.length) :
    Calls Tryd.prog 59 #[.slice A d.length c, .int .i64 (p : Int)] w (RetCmE w (frE (frameF (d.drop p)) p)) := by
  have Ha := Lib.hid ha
  clear ha
  have m1 : IntKind.i64.wrap ((p : Int) + 6) = (p : Int) + 6 := IntWalk.i64_in _ (by omega)
  by_cases h6 : d.length < p + 6
  · have Hv := Lib.hid (show frE (frameF (d.drop p)) p = ((0, []), -1) by rw [frame_none (by simp; omega)]; rfl)
    have z1 : (d.length : Int) < (p : Int) + 6 := by omega
    clear h6
    go_enter Tryd.func59, Tryd.ntmps59
    go_wp2
    refine bodyPost_ret (v := .tuple #[.agg #[.int .i64 0, .slice none 0 0], .int .i64 (-1)]) (by simp [results, Tryd.results59, go_sem]) rfl ?_
    rw [Hv.out]
    exact ⟨none, 0, rfl, SL.nil, (Below.refl _ _).alloc (Nat.le_refl _) _⟩
  · have z1 : ¬ (d.length : Int) < (p : Int) + 6 := by omega
    obtain ⟨g, off, rfl, _, hlt, hc1⟩ := Ha.out.bat (k := p) (by omega)
    obtain ⟨g', off', e', _, _, hc2⟩ := Ha.out.bat (k := p + 1) (by omega)
    cases e'
    obtain ⟨a, hae⟩ : ∃ a, a = d[p]'(by omega) := ⟨_, rfl⟩
    obtain ⟨b, hbe⟩ : ∃ b, b = d[p + 1]'(by omega) := ⟨_, rfl⟩
    have hal := a.toNat_lt
    have hbl := b.toNat_lt
    rw [← hae] at hc1
    rw [← hbe] at hc2
    have hdr : d.drop p = a :: b :: d.drop (p + 2) := by
      rw [List.drop_eq_getElem_cons (by omega), List.drop_eq_getElem_cons (i := p + 1) (by omega), ← hae, ← hbe]
    have i0 : (0 : Int) ≤ (p : Int) := by omega
    have i1 : (p : Int) < (d.length : Int) := by omega
    have i2 : (0 : Int) ≤ (p : Int) + 1 := by omega
    have i3 : (p : Int) + 1 < (d.length : Int) := by omega
    have m2 : IntKind.i64.wrap ((p : Int) + 2) = (p : Int) + 2 := IntWalk.i64_in _ (by omega)
    have m3 : IntKind.i64.wrap (256 * (a.toNat : Int)) = 256 * (a.toNat : Int) := IntWalk.i64_in _ (by omega)
    have m4 : IntKind.i64.wrap ((p : Int) + 2 + 256 * (a.toNat : Int)) = (p : Int) + 2 + 256 * (a.toNat : Int) := IntWalk.i64_in _ (by omega)
    have m5 : IntKind.i64.wrap ((p : Int) + 1) = (p : Int) + 1 := IntWalk.i64_in _ (by omega)
    have m8 : IntKind.i64.wrap (a.toNat : Int) = (a.toNat : Int) := IntWalk.i64_in _ (by omega)
    have m9 : IntKind.i64.wrap (b.toNat : Int) = (b.toNat : Int) := IntWalk.i64_in _ (by omega)
    have m6 : IntKind.i64.wrap ((p : Int) + 2 + 256 * (a.toNat : Int) + (b.toNat : Int)) = (p : Int) + 2 + 256 * (a.toNat : Int) + (b.toNat : Int) := IntWalk.i64_in _ (by omega)
    have m7 : IntKind.i64.wrap ((p : Int) + 2 + 256 * (a.toNat : Int) + (b.toNat : Int) + 4) = (p : Int) + 2 + 256 * (a.toNat : Int) + (b.toNat : Int) + 4 := IntWalk.i64_in _ (by omega)
    by_cases h7 : d.length < p + 2 + 256 * a.toNat + b.toNat + 4
    · have Hv := Lib.hid (show frE (frameF (d.drop p)) p = ((0, []), -1) by
        rw [hdr, frame_long (.inr (by simp; omega))]
        rfl)
      have z2 : (d.length : Int) < (p : Int) + 2 + 256 * (a.toNat : Int) + (b.toNat : Int) + 4 := by omega
      clear hae hbe hdr h6 h7
      go_enter Tryd.func59, Tryd.ntmps59
      go_wp2
      go_quiet (fail)
      go_wp2
      refine bodyPost_ret (v := .tuple #[.agg #[.int .i64 0, .slice none 0 0], .int .i64 (-1)]) (by simp [results, Tryd.results59, go_sem]) rfl ?_
      rw [Hv.out]
      exact ⟨none, 0, rfl, SL.nil, ((below_drewN ((Below.refl w.heap.size w).alloc (Nat.le_refl _) _) _).setCell (p := ⟨w.heap.size, 0, none⟩) (Nat.le_refl _) _).setCell (p := ⟨w.heap.size, 1, none⟩) (Nat.le_refl _) _⟩
    · have z2 : ¬ (d.length : Int) < (p : Int) + 2 + 256 * (a.toNat : Int) + (b.toNat : Int) + 4 := by omega
      have m10 : IntKind.i64.wrap ((p : Int) + 2 + 256 * (a.toNat : Int) + (b.toNat : Int) - (p : Int)) = (p : Int) + 2 + 256 * (a.toNat : Int) + (b.toNat : Int) - (p : Int) := IntWalk.i64_in _ (by omega)
      by_cases h8 : 4000 < 256 * a.toNat + b.toNat + 2
      · have Hv := Lib.hid (show frE (frameF (d.drop p)) p = ((0, []), -1) by
          rw [hdr, frame_long (.inl h8)]
          rfl)
        have z3 : (4000 : Int) < (p : Int) + 2 + 256 * (a.toNat : Int) + (b.toNat : Int) - (p : Int) := by omega
        clear hae hbe hdr h6 h7 h8
        go_enter Tryd.func59, Tryd.ntmps59
        go_wp2
        go_quiet (fail)
        go_wp2
        refine bodyPost_ret (v := .tuple #[.agg #[.int .i64 0, .slice none 0 0], .int .i64 (-1)]) (by simp [results, Tryd.results59, go_sem]) rfl ?_
        rw [Hv.out]
        exact ⟨none, 0, rfl, SL.nil, ((below_drewN ((Below.refl w.heap.size w).alloc (Nat.le_refl _) _) _).setCell (p := ⟨w.heap.size, 0, none⟩) (Nat.le_refl _) _).setCell (p := ⟨w.heap.size, 1, none⟩) (Nat.le_refl _) _⟩
      · have z3 : ¬ (4000 : Int) < (p : Int) + 2 + 256 * (a.toNat : Int) + (b.toNat : Int) - (p : Int) := by omega
        have s0 : (p : Int) ≤ (p : Int) + 2 + 256 * (a.toNat : Int) + (b.toNat : Int) := by omega
        have s1 : (p : Int) + 2 + 256 * (a.toNat : Int) + (b.toNat : Int) ≤ (c : Int) := by omega
        have s2 : (0 : Int) ≤ (p : Int) + 2 + 256 * (a.toNat : Int) + (b.toNat : Int) := by omega
        have Hdr := Lib.hid hdr
        have hre : (d.drop (p + 2)).length = d.length - (p + 2) := List.length_drop
        have hfit : ¬ (4000 < 256 * a.toNat + b.toNat + 2 ∨ (d.drop (p + 2)).length < 256 * a.toNat + b.toNat + 4) := by omega
        obtain ⟨X, hX⟩ : ∃ X, X = (d.drop p).take (256 * a.toNat + b.toNat + 2) := ⟨_, rfl⟩
        have hX' : X = a :: b :: (d.drop (p + 2)).take (256 * a.toNat + b.toNat) := by rw [hX, hdr]; rfl
        obtain ⟨Y, hY⟩ : ∃ Y, Y = (d.drop (p + 2 + (256 * a.toNat + b.toNat))).take 4 := ⟨_, rfl⟩
        have hY' : Y = ((d.drop (p + 2)).drop (256 * a.toNat + b.toNat)).take 4 := by rw [hY, List.drop_drop]
        obtain ⟨R, hR⟩ : ∃ R, R = (d.drop (p + 2)).take (256 * a.toNat + b.toNat) := ⟨_, rfl⟩
        obtain ⟨D, hD⟩ : ∃ D, D = digS X := ⟨_, rfl⟩
        have Hdl := Lib.hid (show D.length = 32 by rw [hD]; exact dig_len _)
        have hXl : X.length = 256 * a.toNat + b.toNat + 2 := by rw [hX, List.length_take, List.length_drop]; omega
        have hYl : Y.length = 4 := by rw [hY, List.length_take, List.length_drop]; omega
        have hRl : R.length = 256 * a.toNat + b.toNat := by rw [hR, List.length_take, List.length_drop]; omega
        have HX := Lib.hid (show Bs All w (some ⟨g, off + p, none⟩) X by have h := bs_sub Ha.out p (256 * a.toNat + b.toNat + 2); rw [Option.map_some, add_at, ← hX] at h; exact h)
        have HY := Lib.hid (show Bs All w (some ⟨g, off + (p + 2 + 256 * a.toNat + b.toNat), none⟩) Y by have h := bs_sub Ha.out (p + 2 + (256 * a.toNat + b.toNat)) 4; rw [Option.map_some, add_at, ← hY, ← Nat.add_assoc (p + 2)] at h; exact h)
        have HR := Lib.hid (show Bs All w (some ⟨g, off + (p + 2), none⟩) R by have h := bs_sub Ha.out (p + 2) (256 * a.toNat + b.toNat); rw [Option.map_some, add_at, ← hR] at h; exact h)
        have HD := Lib.hid (show ∀ (W : World) (A' : Option Addr) (n' c' : Nat), n' = X.length → Bs All W A' X → Calls Tryd.prog 56 #[.slice A' n' c'] W (RetSLc 1 ByteR W D) from fun W A' n' c' h1 h2 => by subst h1; rw [hD]; exact digested_cap W A' X c' h2 (by omega))
        obtain ⟨q, hq⟩ : ∃ q, q = (D.take 4 == Y) := ⟨_, rfl⟩
        have HS := Lib.hid (show ∀ (W : World) (A' B' : Option Addr) (n1 c' n2 d' : Nat), n1 = 4 → n2 = 4 → Bs All W A' (D.take 4) → Bs All W B' Y → Calls Tryd.prog 75 #[.slice A' n1 c', .slice B' n2 d'] W (fun e w' => e = .returned (.bool q) ∧ W = w') from fun W A' B' n1 c' n2 d' h1 h2 h3 h4 => by
          have h := refSameBytes_ok W A' B' (D.take 4) Y c' d' h3 h4
          rw [show (D.take 4).length = 4 by rw [List.length_take, Hdl.out]; rfl, hYl, ← hq] at h
          subst h1; subst h2; exact h)
        obtain ⟨x, er, hxe⟩ : ∃ x er, decS R = (x, er) := ⟨_, _, rfl⟩
        have HC := Lib.hid (show ∀ (W : World) (A' : Option Addr) (n' c' : Nat), n' = R.length → n' ≤ c' → Bs All W A' R → Calls Tryd.prog 100 #[.slice A' n' c'] W (RetCmE W (x, er)) from fun W A' n' c' h1 h2 h3 => by subst h1; rw [← hxe]; exact commitOf_ok W A' R c' h3 h2)
        have Hv0 := Lib.hid (show frE (frameF (d.drop p)) p = if q = false then ((0, []), -1) else if er ≠ 0 then ((0, []), -1) else (x, (p : Int) + 2 + 256 * (a.toNat : Int) + (b.toNat : Int) + 4) by
          rw [hdr]
          unfold frameF
          simp only []
          rw [if_neg hfit, ← hX', ← hR, ← hY', ← hD, hxe]
          dsimp only
          cases hq2 : q with
          | false =>
            rw [if_pos (by rw [hq] at hq2; simpa using hq2), if_pos rfl]
            rfl
          | true =>
            have hdy : D.take 4 = Y := by rw [hq] at hq2; simpa using hq2
            rw [if_neg (fun h : D.take 4 ≠ Y => h hdy), if_neg (show ¬ (true = false) by decide)]
            by_cases he : er = 0
            · rw [if_neg (fun h : er ≠ 0 => h he), if_neg (fun h : er ≠ 0 => h he)]
              show (x, (p : Int) + ((256 * a.toNat + b.toNat + 6 : Nat) : Int)) = _
              rw [show (p : Int) + ((256 * a.toNat + b.toNat + 6 : Nat) : Int) = (p : Int) + 2 + 256 * (a.toNat : Int) + (b.toNat : Int) + 4 by omega]
            · rw [if_pos he, if_pos he]
              rfl)
        have HXl := Lib.hid hXl
        have HRl := Lib.hid hRl
        have s3 : (0 : Int) ≤ (p : Int) + 2 := by omega
        have s4 : (p : Int) + 2 ≤ (p : Int) + 2 + 256 * (a.toNat : Int) + (b.toNat : Int) := by omega
        have s5 : (p : Int) + 2 + 256 * (a.toNat : Int) + (b.toNat : Int) ≤ (p : Int) + 2 + 256 * (a.toNat : Int) + (b.toNat : Int) + 4 := by omega
        have s6 : (p : Int) + 2 + 256 * (a.toNat : Int) + (b.toNat : Int) + 4 ≤ (c : Int) := by omega
        clear hae hbe hdr h6 h7 h8 hX hX' hY hY' hR hD hq hxe hXl hYl hRl hre hfit
        cases q with
        | false =>
          have Hv := Lib.hid (Hv0.out.trans (if_pos rfl))
          clear Hv0
          go_enter Tryd.func59, Tryd.ntmps59
          go_wp2
          go_quiet (fail)
          go_wp2_with ((go_at_call 56; (with_reducible refine (HD.out _ _ _ _ ?hn ?hb).mono ?_); (case hn => (have := HXl.out; omega)); (case hb => exact HX.out.bsame ((Same.of_below ((Below.refl w.heap.size w).alloc (Nat.le_refl _) _)).drewN _)); rintro e w2 ⟨D1, dd, rfl, hdc, hs2, hb2⟩; have h4d : 4 ≤ dd := (by have := Hdl.out; omega); have hdb := hs2 (by rw [Hdl.out]; omega); obtain ⟨db, dof, rfl, _⟩ := hdb; have hz2 : w.heap.size + 1 ≤ w2.heap.size := (by have := hb2.size; simp at this; omega); have hbw2 : Below w.heap.size w w2 := (below_drewN ((Below.refl w.heap.size w).alloc (Nat.le_refl _) _) _).next hb2 (by simp); obtain ⟨g0, g1, f0, f1⟩ := box2 (a := .int .i64 0) (b := .slice none 0 0) (t := 48) ((hb2.block w.heap.size (by simp)).trans (heap_alloc_new w _)); have hlt2 : w.heap.size < w2.heap.size := (by omega)))
          go_quiet ((go_at_call 75; exact quiet_left (HS.out _ _ _ _ _ _ _ (by omega) (by omega) ((bs_topT (SL.bz hs2) 4).bsame ((Same.refl _ _).drewN _)) (HY.out.bsame ((Same.of_below hbw2).drewN _)))))
          go_wp2
          refine bodyPost_ret (v := .tuple #[.agg #[.int .i64 0, .slice none 0 0], .int .i64 (-1)]) (by simp [results, Tryd.results59, go_sem, g0, g1, f0, f1, hlt2]) rfl ?_
          rw [Hv.out]
          exact ⟨none, 0, rfl, SL.nil, ((below_drewN hbw2 _).setCell (p := ⟨w.heap.size, 0, none⟩) (Nat.le_refl _) _).setCell (p := ⟨w.heap.size, 1, none⟩) (Nat.le_refl _) _⟩
        | true =>
          by_cases he : er = 0
          · have Hv := Lib.hid (Hv0.out.trans ((if_neg (by simp)).trans (if_neg (by simpa using he))))
            have b1 : (er != 0) = false := by simp [he]
            clear Hv0 he
            go_enter Tryd.func59, Tryd.ntmps59
            go_wp2
            go_quiet (fail)
            go_wp2_with ((go_at_call 56; (with_reducible refine (HD.out _ _ _ _ ?hn ?hb).mono ?_); (case hn => (have := HXl.out; omega)); (case hb => exact HX.out.bsame ((Same.of_below ((Below.refl w.heap.size w).alloc (Nat.le_refl _) _)).drewN _)); rintro e w2 ⟨D1, dd, rfl, hdc, hs2, hb2⟩; have h4d : 4 ≤ dd := (by have := Hdl.out; omega); have hdb := hs2 (by rw [Hdl.out]; omega); obtain ⟨db, dof, rfl, _⟩ := hdb; have hz2 : w.heap.size + 1 ≤ w2.heap.size := (by have := hb2.size; simp at this; omega); have hbw2 : Below w.heap.size w w2 := (below_drewN ((Below.refl w.heap.size w).alloc (Nat.le_refl _) _) _).next hb2 (by simp); obtain ⟨g0, g1, f0, f1⟩ := box2 (a := .int .i64 0) (b := .slice none 0 0) (t := 48) ((hb2.block w.heap.size (by simp)).trans (heap_alloc_new w _)); have hlt2 : w.heap.size < w2.heap.size := (by omega)))
            go_quiet ((go_at_call 75; exact quiet_left (HS.out _ _ _ _ _ _ _ (by omega) (by omega) ((bs_topT (SL.bz hs2) 4).bsame ((Same.refl _ _).drewN _)) (HY.out.bsame ((Same.of_below hbw2).drewN _)))))
            go_wp2_with (go_at_call 100; (with_reducible refine (HC.out _ _ _ _ ?hn ?hc ?hb).mono ?_); (case hn => (have := HRl.out; omega)); (case hc => omega); (case hb => exact HR.out.bsame ((Same.of_below hbw2).drewN _)); rintro e w3 ⟨A3, n3, rfl, hs3, hb3⟩; have hbw3 : Below w.heap.size w w3 := (below_drewN hbw2 _).next hb3 hbw2.size; obtain ⟨g0, g1, f0, f1⟩ := box2 (a := .int .i64 0) (b := .slice none 0 0) (t := 48) ((hb3.block w.heap.size (show w.heap.size < w2.heap.size by omega)).trans ((hb2.block w.heap.size (by simp)).trans (heap_alloc_new w _))); have hlt3 : w.heap.size < w3.heap.size := (by have h9 : w2.heap.size ≤ w3.heap.size := hb3.size; omega))
            refine bodyPost_ret (v := .tuple #[.agg #[.int .i64 x.1, .slice A3 x.2.length n3], .int .i64 ((p : Int) + 2 + 256 * (a.toNat : Int) + (b.toNat : Int) + 4)]) (by simp [results, Tryd.results59, go_sem, g0, g1, f0, f1, hlt3]) rfl ?_
            rw [Hv.out]
            refine ⟨A3, n3, rfl, ?_, ?_⟩
            · refine SL.lo wrR_stays (n := w2.heap.size) (hs3.same wrR_stays ?_) (Nat.le_of_succ_le hz2)
              exact ((((Same.refl _ _).setCell (p := ⟨w.heap.size, 0, none⟩) (show ¬ (w2.heap.size ≤ w.heap.size) by omega) _).setCell (p := ⟨w.heap.size, 1, none⟩) (show ¬ (w2.heap.size ≤ w.heap.size) by omega) _)).alloc _
            · have hq9 := (hbw3.setCell (p := ⟨w.heap.size, 0, none⟩) (Nat.le_refl _) (.int .i64 x.1)).setCell (p := ⟨w.heap.size, 1, none⟩) (Nat.le_refl _) (.slice A3 x.2.length n3)
              exact hq9.alloc hq9.size _
          · have Hv := Lib.hid (Hv0.out.trans ((if_neg (by simp)).trans (if_pos (by simpa using he))))
            have b1 : (er != 0) = true := by simpa using he
            clear Hv0 he
            go_enter Tryd.func59, Tryd.ntmps59
            go_wp2
            go_quiet (fail)
            go_wp2_with ((go_at_call 56; (with_reducible refine (HD.out _ _ _ _ ?hn ?hb).mono ?_); (case hn => (have := HXl.out; omega)); (case hb => exact HX.out.bsame ((Same.of_below ((Below.refl w.heap.size w).alloc (Nat.le_refl _) _)).drewN _)); rintro e w2 ⟨D1, dd, rfl, hdc, hs2, hb2⟩; have h4d : 4 ≤ dd := (by have := Hdl.out; omega); have hdb := hs2 (by rw [Hdl.out]; omega); obtain ⟨db, dof, rfl, _⟩ := hdb; have hz2 : w.heap.size + 1 ≤ w2.heap.size := (by have := hb2.size; simp at this; omega); have hbw2 : Below w.heap.size w w2 := (below_drewN ((Below.refl w.heap.size w).alloc (Nat.le_refl _) _) _).next hb2 (by simp); obtain ⟨g0, g1, f0, f1⟩ := box2 (a := .int .i64 0) (b := .slice none 0 0) (t := 48) ((hb2.block w.heap.size (by simp)).trans (heap_alloc_new w _)); have hlt2 : w.heap.size < w2.heap.size := (by omega)))
            go_quiet ((go_at_call 75; exact quiet_left (HS.out _ _ _ _ _ _ _ (by omega) (by omega) ((bs_topT (SL.bz hs2) 4).bsame ((Same.refl _ _).drewN _)) (HY.out.bsame ((Same.of_below hbw2).drewN _)))))
            go_wp2_with (go_at_call 100; (with_reducible refine (HC.out _ _ _ _ ?hn ?hc ?hb).mono ?_); (case hn => (have := HRl.out; omega)); (case hc => omega); (case hb => exact HR.out.bsame ((Same.of_below hbw2).drewN _)); rintro e w3 ⟨A3, n3, rfl, hs3, hb3⟩; have hbw3 : Below w.heap.size w w3 := (below_drewN hbw2 _).next hb3 hbw2.size; obtain ⟨g0, g1, f0, f1⟩ := box2 (a := .int .i64 0) (b := .slice none 0 0) (t := 48) ((hb3.block w.heap.size (show w.heap.size < w2.heap.size by omega)).trans ((hb2.block w.heap.size (by simp)).trans (heap_alloc_new w _))); have hlt3 : w.heap.size < w3.heap.size := (by have h9 : w2.heap.size ≤ w3.heap.size := hb3.size; omega))
            refine bodyPost_ret (v := .tuple #[.agg #[.int .i64 0, .slice none 0 0], .int .i64 (-1)]) (by simp [results, Tryd.results59, go_sem, g0, g1, f0, f1, hlt3]) rfl ?_
            rw [Hv.out]
            have hq9 := (hbw3.setCell (p := ⟨w.heap.size, 0, none⟩) (Nat.le_refl _) (.int .i64 0)).setCell (p := ⟨w.heap.size, 1, none⟩) (Nat.le_refl _) (.slice none 0 0)
            exact ⟨none, 0, rfl, SL.nil, hq9.alloc hq9.size _⟩
end Go.Proofs.YteacjkihjeiafaaDoor
