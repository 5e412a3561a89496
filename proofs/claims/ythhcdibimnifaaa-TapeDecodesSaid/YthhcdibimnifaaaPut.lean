/- Walks: PutOf of the references; tree.Put. -/
import Derived.Test.YthhcdibimnifaaaPutS
import Derived.Test.YthhcdibimnifaaaSInsG
namespace Go.Proofs.Ythhcdibimnifaaa
open Go.RowKit
set_option linter.unusedVariables false
set_option linter.unusedSimpArgs false

/-- A new pair's cells, as what they say behind more allocations. -/
theorem pair_fresh {n base : Nat} {w W : World} {v : Value} {A B : Option Addr} {p : Pr} {c d : Nat} (h1 : Bs (From n) w A p.1) (h2 : Bs (From n) w B p.2) (g1 : p.1.length ≤ big) (g2 : p.2.length ≤ big) (hs : Same (From n) w W) (hb : base ≤ n) (hap : ∀ b, From n b → v.ownBlock ≠ some b) :
    PairR (fun b => From base b ∧ v.ownBlock ≠ some b) W [.slice A p.1.length c, .slice B p.2.length d] p :=
  ⟨A, c, B, d, rfl, (h1.bsame hs).bless fun b _ h => ⟨Nat.le_trans hb h, hap b h⟩, (h2.bsame hs).bless fun b _ h => ⟨Nat.le_trans hb h, hap b h⟩, g1, g2⟩
theorem pairFine_big {p : Pr} (h : pairFaultS p = 0) : p.1.length ≤ big ∧ p.2.length ≤ big := by
  unfold pairFaultS keyFault at h
  unfold big
  split at h
  · simp at h
  · split at h
    · omega
    · simp at h

set_option maxRecDepth 100000 in
set_option maxHeartbeats 2000000 in
theorem putOf_ok (w : World) (A : Option Addr) (l : List Pr) (c : Nat) (P Q : Option Addr) (p : Pr) (pc pd : Nat) (ha : Ps All w A l) (hp1 : Bs All w P p.1) (hp2 : Bs All w Q p.2) :
    Calls Try.prog 35 #[.slice A l.length c, .agg #[.slice P p.1.length pc, .slice Q p.2.length pd]] w (RetPE w (putS l p)) := by
  obtain ⟨i0, hi0, hz0, hz1, hz2⟩ := info_parts info_pair
  have Ha := Lib.hid ha
  have Hp1 := Lib.hid hp1
  have Hp2 := Lib.hid hp2
  clear ha hp1 hp2
  by_cases h1 : pairsFaultS l = 0
  · have b1 : (pairsFaultS l == 0) = true := by simp [h1]
    by_cases h2 : pairFaultS p = 0
    · have b2 : (pairFaultS p != 0) = false := by simp [h2]
      obtain ⟨hl60, hlf, _⟩ := pairs_fine h1
      have Hl := Lib.hid hl60
      have Hlf := Lib.hid hlf
      have Hpb := Lib.hid (pairFine_big h2)
      have Hpp := Lib.hid (show ppFault l p = 0 by simp [ppFault, h1, h2])
      clear h1 h2 hlf
      go_enter Try.func35, Try.ntmps35
      go_wp2_with (first
        | (go_at_call 100; refine (pairsFault_ok _ A l c (Ha.out.below pairR_stays ?_)).mono ?_; (repeat' (first | exact Below.refl _ _ | assumption | refine Below.drew ?_ | refine below_drewN ?_ _ | refine Below.alloc ?_ (by first | exact Nat.le_refl _ | omega | (simp; done) | (simp; omega)) _)); rintro e w2 ⟨rfl, hb2⟩; have hg0 : w2.cell? ⟨w.heap.size, 0, none⟩ = some (.slice P p.1.length pc) := (hb2.cell (by first | (simp; done) | omega | (simp; omega))).trans (by simp); have hg1 : w2.cell? ⟨w.heap.size, 1, none⟩ = some (.slice Q p.2.length pd) := (hb2.cell (by first | (simp; done) | omega | (simp; omega))).trans (by simp))
        | (go_at_call 101; refine (pairFault_ok _ P Q p pc pd).mono ?_; rintro e w1 ⟨rfl, hb1⟩))
      clear b1 b2
      have hbox : w2.heap[w.heap.size]? = some (.cells #[.slice P p.1.length pc, .slice Q p.2.length pd] 39 (0, 0)) := (hb2.block w.heap.size (by first | (simp; done) | omega | (simp; omega))).trans (box_new w _ _)
      have hz2' : w.heap.size + 1 ≤ w2.heap.size := by have := hb2.size; simpa using this
      have hb02 : Below w.heap.size w w2 := ((Below.refl w.heap.size w).alloc (Nat.le_refl _) _).next hb2 (by first | (simp; done) | omega | (simp; omega))
      have hz1' : w2.heap.size ≤ w1.heap.size := hb1.size
      have hb01 : Below w.heap.size w w1 := hb02.next hb1 (by omega)
      have hbox1 : w1.heap[w.heap.size]? = some (.cells #[.slice P p.1.length pc, .slice Q p.2.length pd] 39 (0, 0)) := (hb1.block w.heap.size (by omega)).trans hbox
      have Ha1 := Lib.hid (Ha.out.below pairR_stays hb01)
      have Hp11 := Lib.hid (Hp1.out.bbelow hb01)
      have Hp21 := Lib.hid (Hp2.out.bbelow hb01)
      have Hbox := Lib.hid hbox1
      have Hb01 := Lib.hid hb01
      have hzb : w.heap.size < w1.heap.size := by omega
      clear hbox hbox1 hb02 hb01 hb1 hb2 hz1' hz2' hg0 hg1
      go_loopw [7, 8, 9] (fun v d i wr => ∃ j : Nat, j ≤ l.length ∧ i = .int .i64 j ∧ d = .bool (putFold p (l.take j)).2 ∧ Own 2 PairR (From w1.heap.size) wr w1.heap.size 39 v (putFold p (l.take j)).1 ∧ Below w1.heap.size w1 wr) (fun _ _ i _ => l.length - (intOf i).toNat)
      case atStart => exact ⟨0, by omega, rfl, rfl, Own.nil _ _ _, Below.refl _ _⟩
      case round =>
        obtain ⟨j, hj, rfl, rfl, hown, hbel⟩ := hrel
        have hbz := hbel.size
        by_cases hlt : j < l.length
        · have Hst := Lib.hid (putFold_snoc (p := p) hlt)
          have Hlen := Lib.hid (putFold_len p l j hj)
          obtain ⟨ab, ao, K0, c3, V0, d3, rfl, _, hal, hc1, hc2, hs1, hs2, hb1, hb2⟩ := pairs_at Ha1.out hlt
          have Hcells := Lib.hid (show ∀ W, Below w1.heap.size w1 W → (W.cell? ⟨w.heap.size, 0, none⟩ = some (.slice P p.1.length pc) ∧ W.cell? ⟨w.heap.size, 1, none⟩ = some (.slice Q p.2.length pd) ∧ W.cell? ⟨ab, ao + j * 2, none⟩ = some (.slice K0 l[j].1.length c3) ∧ W.cell? ⟨ab, ao + j * 2 + 1, none⟩ = some (.slice V0 l[j].2.length d3)) from fun W hW => by
            obtain ⟨g0, g1, _, _⟩ := box2 ((hW.block _ hzb).trans Hbox.out)
            exact ⟨g0, g1, (hW.cell hal).trans hc1, (hW.cell hal).trans hc2⟩)
          clear hc1 hc2
          obtain ⟨g0, g1, hc1, hc2⟩ := Hcells.out wr hbel
          generalize l[j] = x at *
          have Hstep : ∀ s, putFold p (l.take j) = s → putFold p (l.take (j + 1)) = putStep p s x := fun s hs => by rw [Hst.out, hs]
          clear Hst
          generalize putFold p (l.take j) = s at *
          have Hst := Lib.hid (Hstep s rfl)
          clear Hstep
          obtain ⟨out, dn⟩ := s
          have Hown := Lib.hid hown
          have hlen := Hlen.out
          have h60 := Hl.out
          have hi1 : (j : Int) < (l.length : Int) := by omega
          dsimp only at hlen
          clear hown
          cases dn with
          | true =>
            rcases Bool.eq_false_or_eq_true (x.1 == p.1) with he | he
            · have Hq := Lib.hid (show putStep p (out, true) x = (out, true) by simp [putStep, he])
              go_wp2_with fail
              go_quiet (fail)
              go_wp2_with fail
              go_quiet ((go_at_call 89; exact quiet_add_left ((refSameBytes_ok _ K0 P x.1 p.1 c3 pc ((hs1.bz.bbelow hbel).bsame (by repeat' (first | exact Same.refl _ _ | assumption | refine Same.drew ?_ | refine Same.drewN ?_ _ | refine Same.alloc ?_ _ | refine Same.setCell ?_ (fun hq => by simp only [From] at hq; first | omega | (simp at hq; done) | (simp at hq; omega)) _))) ((Hp11.out.bbelow hbel).bsame (by repeat' (first | exact Same.refl _ _ | assumption | refine Same.drew ?_ | refine Same.drewN ?_ _ | refine Same.alloc ?_ _ | refine Same.setCell ?_ (fun hq => by simp only [From] at hq; first | omega | (simp at hq; done) | (simp at hq; omega)) _)))))))
              go_wp2
              go_roundw
              case rel => exact ⟨j + 1, by omega, by go_num, by rw [Hst.out, Hq.out], by rw [Hst.out, Hq.out]; exact Hown.out.below pairR_stays (below_drewN (Below.refl _ _) _), below_drewN hbel _⟩
              case measure => simp [intOf]; omega
            · have Hq := Lib.hid (show putStep p (out, true) x = (out ++ [x], true) by simp [putStep, he])
              go_wp2_with fail
              go_quiet (fail)
              go_wp2_with fail
              go_quiet ((go_at_call 89; exact quiet_add_left ((refSameBytes_ok _ K0 P x.1 p.1 c3 pc ((hs1.bz.bbelow hbel).bsame (by repeat' (first | exact Same.refl _ _ | assumption | refine Same.drew ?_ | refine Same.drewN ?_ _ | refine Same.alloc ?_ _ | refine Same.setCell ?_ (fun hq => by simp only [From] at hq; first | omega | (simp at hq; done) | (simp at hq; omega)) _))) ((Hp11.out.bbelow hbel).bsame (by repeat' (first | exact Same.refl _ _ | assumption | refine Same.drew ?_ | refine Same.drewN ?_ _ | refine Same.alloc ?_ _ | refine Same.setCell ?_ (fun hq => by simp only [From] at hq; first | omega | (simp at hq; done) | (simp at hq; omega)) _)))))))
              generalize hwz : World.drewN wr _ = wz
              have hbzz : Below w1.heap.size w1 wz := hwz ▸ below_drewN hbel _
              have Hownz := Lib.hid (show Own 2 PairR (From w1.heap.size) wz w1.heap.size 39 _ out from hwz ▸ Hown.out.below pairR_stays (below_drewN (Below.refl _ _) _))
              clear hwz
              generalize hwq : World.drewN wz _ = wq
              have hbq : Below w1.heap.size w1 wq := hwq ▸ below_drewN hbzz _
              have Hownq := Lib.hid (show Own 2 PairR (From w1.heap.size) wq w1.heap.size 39 _ (out) from hwq ▸ Hownz.out.below pairR_stays (below_drewN (Below.refl _ _) _))
              clear hwq
              have hbqz := hbq.size
              obtain ⟨g2, g3, hc3, hc4⟩ := Hcells.out wq hbq
              go_wp2_with (first
                | (go_at_call 94; (with_reducible refine (pairCopy_ok _ K0 V0 x c3 d3 ?h1 ?h2 hb1 hb2).mono ?_); (case h1 => (refine hs1.bz.bbelow ?_; repeat' (first | exact Below.refl _ _ | assumption | refine Below.drew ?_ | refine below_drewN ?_ _ | refine Below.setCell ?_ (by first | (simp; done) | omega | (simp; omega)) _ | refine Below.alloc ?_ (by first | exact Nat.le_refl _ | omega | (simp; done) | (simp; omega)) _))); (case h2 => (refine hs2.bz.bbelow ?_; repeat' (first | exact Below.refl _ _ | assumption | refine Below.drew ?_ | refine below_drewN ?_ _ | refine Below.setCell ?_ (by first | (simp; done) | omega | (simp; omega)) _ | refine Below.alloc ?_ (by first | exact Nat.le_refl _ | omega | (simp; done) | (simp; omega)) _))); rintro e w4 ⟨A1, c4, A2, d2, rfl, gs1, gs2, hb4⟩; have hb4z := hb4.size)
                | (at_builtin; refine wpl_snoc pairR_stays (S := From w1.heap.size) _ rfl (.tmp 61) (.tmp 63) _ rfl w1.heap.size 39 i0 _ 2 48 Try.underlying22 hi0 hz0 hz1 hz2 rfl (by decide) _ (out) rfl ?hown _ _ [.slice A1 x.1.length c4, .slice A2 x.2.length d2] rfl rfl (new_src _ _ [.slice A1 x.1.length c4, .slice A2 x.2.length d2] _ (by simp)) (by simp [Value.oneCell']) ?hm ?hby ?hba x ?hd ?_; (case hown => (refine Own.below pairR_stays Hownq.out ?_; repeat' (first | exact Below.refl _ _ | assumption | refine Below.drew ?_ | refine below_drewN ?_ _ | refine Below.setCell ?_ (by first | (simp; done) | omega | (simp; omega)) _ | refine Below.alloc ?_ (by first | exact Nat.le_refl _ | omega | (simp; done) | (simp; omega)) _))); (case hm => ((try simp only [List.length_append, List.length_singleton]); simp only [maxLen]; omega)); (case hby => ((try simp only [List.length_append, List.length_singleton]); omega)); (case hba => (simp; omega)); (case hd => (refine pair_fresh (n := wq.heap.size) gs1 gs2 hb1 hb2 ?_ (by first | exact Nat.le_refl _ | omega | (simp; done) | (simp; omega)) (Hownq.out.apart _ (Nat.le_refl _)); repeat' (first | exact Same.refl _ _ | assumption | refine Same.drew ?_ | refine Same.drewN ?_ _ | refine Same.alloc ?_ _ | refine Same.setCell ?_ (fun hq => by simp only [From] at hq; first | omega | (simp at hq; done) | (simp at hq; omega)) _))); intro v1 w5 hown2 hbw2))
              go_roundw
              case rel => exact ⟨j + 1, by omega, by go_num, by rw [Hst.out, Hq.out], by rw [Hst.out, Hq.out]; simpa using hown2, (((hbq.next hb4 hbqz).alloc (by first | exact Nat.le_refl _ | omega | (simp; done) | (simp; omega)) _).alloc (by first | exact Nat.le_refl _ | omega | (simp; done) | (simp; omega)) _).trans hbw2⟩
              case measure => simp [intOf]; omega
          | false =>
            rcases Bool.eq_false_or_eq_true (lt x.1 p.1) with ho | ho
            · have he : (x.1 == p.1) = false := by rw [beq_eq_false_iff_ne]; intro e; rw [e, lt_irrefl] at ho; cases ho
              have Hq := Lib.hid (show putStep p (out, false) x = (out ++ [x], false) by simp [putStep, ho, he])
              go_wp2_with fail
              go_quiet ((go_at_call 93; exact quiet_left ((before_ok _ K0 P x.1 p.1 c3 pc ((hs1.bz.bbelow hbel).bsame (by repeat' (first | exact Same.refl _ _ | assumption | refine Same.drew ?_ | refine Same.drewN ?_ _ | refine Same.alloc ?_ _ | refine Same.setCell ?_ (fun hq => by simp only [From] at hq; first | omega | (simp at hq; done) | (simp at hq; omega)) _))) ((Hp11.out.bbelow hbel).bsame (by repeat' (first | exact Same.refl _ _ | assumption | refine Same.drew ?_ | refine Same.drewN ?_ _ | refine Same.alloc ?_ _ | refine Same.setCell ?_ (fun hq => by simp only [From] at hq; first | omega | (simp at hq; done) | (simp at hq; omega)) _)))))))
              go_wp2_with fail
              go_quiet ((go_at_call 89; exact quiet_add_left ((refSameBytes_ok _ K0 P x.1 p.1 c3 pc ((hs1.bz.bbelow hbel).bsame (by repeat' (first | exact Same.refl _ _ | assumption | refine Same.drew ?_ | refine Same.drewN ?_ _ | refine Same.alloc ?_ _ | refine Same.setCell ?_ (fun hq => by simp only [From] at hq; first | omega | (simp at hq; done) | (simp at hq; omega)) _))) ((Hp11.out.bbelow hbel).bsame (by repeat' (first | exact Same.refl _ _ | assumption | refine Same.drew ?_ | refine Same.drewN ?_ _ | refine Same.alloc ?_ _ | refine Same.setCell ?_ (fun hq => by simp only [From] at hq; first | omega | (simp at hq; done) | (simp at hq; omega)) _)))))))
              generalize hwz : World.drewN wr _ = wz
              have hbzz : Below w1.heap.size w1 wz := hwz ▸ below_drewN hbel _
              have Hownz := Lib.hid (show Own 2 PairR (From w1.heap.size) wz w1.heap.size 39 _ out from hwz ▸ Hown.out.below pairR_stays (below_drewN (Below.refl _ _) _))
              clear hwz
              generalize hwq : World.drewN wz _ = wq
              have hbq : Below w1.heap.size w1 wq := hwq ▸ below_drewN hbzz _
              have Hownq := Lib.hid (show Own 2 PairR (From w1.heap.size) wq w1.heap.size 39 _ (out) from hwq ▸ Hownz.out.below pairR_stays (below_drewN (Below.refl _ _) _))
              clear hwq
              have hbqz := hbq.size
              obtain ⟨g2, g3, hc3, hc4⟩ := Hcells.out wq hbq
              go_wp2_with (first
                | (go_at_call 94; (with_reducible refine (pairCopy_ok _ K0 V0 x c3 d3 ?h1 ?h2 hb1 hb2).mono ?_); (case h1 => (refine hs1.bz.bbelow ?_; repeat' (first | exact Below.refl _ _ | assumption | refine Below.drew ?_ | refine below_drewN ?_ _ | refine Below.setCell ?_ (by first | (simp; done) | omega | (simp; omega)) _ | refine Below.alloc ?_ (by first | exact Nat.le_refl _ | omega | (simp; done) | (simp; omega)) _))); (case h2 => (refine hs2.bz.bbelow ?_; repeat' (first | exact Below.refl _ _ | assumption | refine Below.drew ?_ | refine below_drewN ?_ _ | refine Below.setCell ?_ (by first | (simp; done) | omega | (simp; omega)) _ | refine Below.alloc ?_ (by first | exact Nat.le_refl _ | omega | (simp; done) | (simp; omega)) _))); rintro e w4 ⟨A1, c4, A2, d2, rfl, gs1, gs2, hb4⟩; have hb4z := hb4.size)
                | (at_builtin; refine wpl_snoc pairR_stays (S := From w1.heap.size) _ rfl (.tmp 61) (.tmp 63) _ rfl w1.heap.size 39 i0 _ 2 48 Try.underlying22 hi0 hz0 hz1 hz2 rfl (by decide) _ (out) rfl ?hown _ _ [.slice A1 x.1.length c4, .slice A2 x.2.length d2] rfl rfl (new_src _ _ [.slice A1 x.1.length c4, .slice A2 x.2.length d2] _ (by simp)) (by simp [Value.oneCell']) ?hm ?hby ?hba x ?hd ?_; (case hown => (refine Own.below pairR_stays Hownq.out ?_; repeat' (first | exact Below.refl _ _ | assumption | refine Below.drew ?_ | refine below_drewN ?_ _ | refine Below.setCell ?_ (by first | (simp; done) | omega | (simp; omega)) _ | refine Below.alloc ?_ (by first | exact Nat.le_refl _ | omega | (simp; done) | (simp; omega)) _))); (case hm => ((try simp only [List.length_append, List.length_singleton]); simp only [maxLen]; omega)); (case hby => ((try simp only [List.length_append, List.length_singleton]); omega)); (case hba => (simp; omega)); (case hd => (refine pair_fresh (n := wq.heap.size) gs1 gs2 hb1 hb2 ?_ (by first | exact Nat.le_refl _ | omega | (simp; done) | (simp; omega)) (Hownq.out.apart _ (Nat.le_refl _)); repeat' (first | exact Same.refl _ _ | assumption | refine Same.drew ?_ | refine Same.drewN ?_ _ | refine Same.alloc ?_ _ | refine Same.setCell ?_ (fun hq => by simp only [From] at hq; first | omega | (simp at hq; done) | (simp at hq; omega)) _))); intro v1 w5 hown2 hbw2))
              go_roundw
              case rel => exact ⟨j + 1, by omega, by go_num, by rw [Hst.out, Hq.out], by rw [Hst.out, Hq.out]; simpa using hown2, (((hbq.next hb4 hbqz).alloc (by first | exact Nat.le_refl _ | omega | (simp; done) | (simp; omega)) _).alloc (by first | exact Nat.le_refl _ | omega | (simp; done) | (simp; omega)) _).trans hbw2⟩
              case measure => simp [intOf]; omega
            · rcases Bool.eq_false_or_eq_true (x.1 == p.1) with he | he
              · have Hq := Lib.hid (show putStep p (out, false) x = (out ++ [p], true) by simp [putStep, ho, he])
                go_wp2_with fail
                go_quiet ((go_at_call 93; exact quiet_left ((before_ok _ K0 P x.1 p.1 c3 pc ((hs1.bz.bbelow hbel).bsame (by repeat' (first | exact Same.refl _ _ | assumption | refine Same.drew ?_ | refine Same.drewN ?_ _ | refine Same.alloc ?_ _ | refine Same.setCell ?_ (fun hq => by simp only [From] at hq; first | omega | (simp at hq; done) | (simp at hq; omega)) _))) ((Hp11.out.bbelow hbel).bsame (by repeat' (first | exact Same.refl _ _ | assumption | refine Same.drew ?_ | refine Same.drewN ?_ _ | refine Same.alloc ?_ _ | refine Same.setCell ?_ (fun hq => by simp only [From] at hq; first | omega | (simp at hq; done) | (simp at hq; omega)) _)))))))
                generalize hwp : World.drewN wr _ = wp
                have hbp : Below w1.heap.size w1 wp := hwp ▸ below_drewN hbel _
                have Hownp := Lib.hid (show Own 2 PairR (From w1.heap.size) wp w1.heap.size 39 _ out from hwp ▸ Hown.out.below pairR_stays (below_drewN (Below.refl _ _) _))
                clear hwp
                have hbpz := hbp.size
                obtain ⟨g5, g6, hc5, hc6⟩ := Hcells.out wp hbp
                go_wp2_with (first
                  | (go_at_call 94; (with_reducible refine (pairCopy_ok _ P Q p pc pd ?h1 ?h2 Hpb.out.1 Hpb.out.2).mono ?_); (case h1 => (refine Hp11.out.bbelow ?_; repeat' (first | exact Below.refl _ _ | assumption | refine Below.drew ?_ | refine below_drewN ?_ _ | refine Below.setCell ?_ (by first | (simp; done) | omega | (simp; omega)) _ | refine Below.alloc ?_ (by first | exact Nat.le_refl _ | omega | (simp; done) | (simp; omega)) _))); (case h2 => (refine Hp21.out.bbelow ?_; repeat' (first | exact Below.refl _ _ | assumption | refine Below.drew ?_ | refine below_drewN ?_ _ | refine Below.setCell ?_ (by first | (simp; done) | omega | (simp; omega)) _ | refine Below.alloc ?_ (by first | exact Nat.le_refl _ | omega | (simp; done) | (simp; omega)) _))); rintro e w6 ⟨A3, c6, A4, d4, rfl, gs3, gs4, hb6⟩; have hb6z := hb6.size)
                  | (at_builtin; refine wpl_snoc pairR_stays (S := From w1.heap.size) _ rfl (.tmp 43) (.tmp 45) _ rfl w1.heap.size 39 i0 _ 2 48 Try.underlying22 hi0 hz0 hz1 hz2 rfl (by decide) _ (out) rfl ?hown _ _ [.slice A3 p.1.length c6, .slice A4 p.2.length d4] rfl rfl (new_src _ _ [.slice A3 p.1.length c6, .slice A4 p.2.length d4] _ (by simp)) (by simp [Value.oneCell']) ?hm ?hby ?hba p ?hd ?_; (case hown => (refine Own.below pairR_stays Hownp.out ?_; repeat' (first | exact Below.refl _ _ | assumption | refine Below.drew ?_ | refine below_drewN ?_ _ | refine Below.setCell ?_ (by first | (simp; done) | omega | (simp; omega)) _ | refine Below.alloc ?_ (by first | exact Nat.le_refl _ | omega | (simp; done) | (simp; omega)) _))); (case hm => ((try simp only [List.length_append, List.length_singleton]); simp only [maxLen]; omega)); (case hby => ((try simp only [List.length_append, List.length_singleton]); omega)); (case hba => (simp; omega)); (case hd => (refine pair_fresh (n := wp.heap.size) gs3 gs4 Hpb.out.1 Hpb.out.2 ?_ (by first | exact Nat.le_refl _ | omega | (simp; done) | (simp; omega)) (Hownp.out.apart _ (Nat.le_refl _)); repeat' (first | exact Same.refl _ _ | assumption | refine Same.drew ?_ | refine Same.drewN ?_ _ | refine Same.alloc ?_ _ | refine Same.setCell ?_ (fun hq => by simp only [From] at hq; first | omega | (simp at hq; done) | (simp at hq; omega)) _))); intro v7 w7 hown7 hbw7; have hb17 : Below w1.heap.size w1 w7 := (((hbp.next hb6 hbpz).alloc (by first | exact Nat.le_refl _ | omega | (simp; done) | (simp; omega)) _).alloc (by first | exact Nat.le_refl _ | omega | (simp; done) | (simp; omega)) _).trans hbw7; have hz17 := hb17.size; obtain ⟨g7, g8, hc7, hc8⟩ := Hcells.out w7 hb17))
                go_quiet ((go_at_call 89; exact quiet_left ((refSameBytes_ok _ K0 P x.1 p.1 c3 pc ((hs1.bz.bbelow hb17).bsame (by repeat' (first | exact Same.refl _ _ | assumption | refine Same.drew ?_ | refine Same.drewN ?_ _ | refine Same.alloc ?_ _ | refine Same.setCell ?_ (fun hq => by simp only [From] at hq; first | omega | (simp at hq; done) | (simp at hq; omega)) _))) ((Hp11.out.bbelow hb17).bsame (by repeat' (first | exact Same.refl _ _ | assumption | refine Same.drew ?_ | refine Same.drewN ?_ _ | refine Same.alloc ?_ _ | refine Same.setCell ?_ (fun hq => by simp only [From] at hq; first | omega | (simp at hq; done) | (simp at hq; omega)) _)))))))
                go_wp2
                go_roundw
                case rel => exact ⟨j + 1, by omega, by go_num, by rw [Hst.out, Hq.out], by rw [Hst.out, Hq.out]; exact hown7.below pairR_stays (below_drewN (Below.refl _ _) _), below_drewN hb17 _⟩
                case measure => simp [intOf]; omega
              · have Hq := Lib.hid (show putStep p (out, false) x = (out ++ [p] ++ [x], true) by simp [putStep, ho, he])
                go_wp2_with fail
                go_quiet ((go_at_call 93; exact quiet_left ((before_ok _ K0 P x.1 p.1 c3 pc ((hs1.bz.bbelow hbel).bsame (by repeat' (first | exact Same.refl _ _ | assumption | refine Same.drew ?_ | refine Same.drewN ?_ _ | refine Same.alloc ?_ _ | refine Same.setCell ?_ (fun hq => by simp only [From] at hq; first | omega | (simp at hq; done) | (simp at hq; omega)) _))) ((Hp11.out.bbelow hbel).bsame (by repeat' (first | exact Same.refl _ _ | assumption | refine Same.drew ?_ | refine Same.drewN ?_ _ | refine Same.alloc ?_ _ | refine Same.setCell ?_ (fun hq => by simp only [From] at hq; first | omega | (simp at hq; done) | (simp at hq; omega)) _)))))))
                generalize hwp : World.drewN wr _ = wp
                have hbp : Below w1.heap.size w1 wp := hwp ▸ below_drewN hbel _
                have Hownp := Lib.hid (show Own 2 PairR (From w1.heap.size) wp w1.heap.size 39 _ out from hwp ▸ Hown.out.below pairR_stays (below_drewN (Below.refl _ _) _))
                clear hwp
                have hbpz := hbp.size
                obtain ⟨g5, g6, hc5, hc6⟩ := Hcells.out wp hbp
                go_wp2_with (first
                  | (go_at_call 94; (with_reducible refine (pairCopy_ok _ P Q p pc pd ?h1 ?h2 Hpb.out.1 Hpb.out.2).mono ?_); (case h1 => (refine Hp11.out.bbelow ?_; repeat' (first | exact Below.refl _ _ | assumption | refine Below.drew ?_ | refine below_drewN ?_ _ | refine Below.setCell ?_ (by first | (simp; done) | omega | (simp; omega)) _ | refine Below.alloc ?_ (by first | exact Nat.le_refl _ | omega | (simp; done) | (simp; omega)) _))); (case h2 => (refine Hp21.out.bbelow ?_; repeat' (first | exact Below.refl _ _ | assumption | refine Below.drew ?_ | refine below_drewN ?_ _ | refine Below.setCell ?_ (by first | (simp; done) | omega | (simp; omega)) _ | refine Below.alloc ?_ (by first | exact Nat.le_refl _ | omega | (simp; done) | (simp; omega)) _))); rintro e w6 ⟨A3, c6, A4, d4, rfl, gs3, gs4, hb6⟩; have hb6z := hb6.size)
                  | (at_builtin; refine wpl_snoc pairR_stays (S := From w1.heap.size) _ rfl (.tmp 43) (.tmp 45) _ rfl w1.heap.size 39 i0 _ 2 48 Try.underlying22 hi0 hz0 hz1 hz2 rfl (by decide) _ (out) rfl ?hown _ _ [.slice A3 p.1.length c6, .slice A4 p.2.length d4] rfl rfl (new_src _ _ [.slice A3 p.1.length c6, .slice A4 p.2.length d4] _ (by simp)) (by simp [Value.oneCell']) ?hm ?hby ?hba p ?hd ?_; (case hown => (refine Own.below pairR_stays Hownp.out ?_; repeat' (first | exact Below.refl _ _ | assumption | refine Below.drew ?_ | refine below_drewN ?_ _ | refine Below.setCell ?_ (by first | (simp; done) | omega | (simp; omega)) _ | refine Below.alloc ?_ (by first | exact Nat.le_refl _ | omega | (simp; done) | (simp; omega)) _))); (case hm => ((try simp only [List.length_append, List.length_singleton]); simp only [maxLen]; omega)); (case hby => ((try simp only [List.length_append, List.length_singleton]); omega)); (case hba => (simp; omega)); (case hd => (refine pair_fresh (n := wp.heap.size) gs3 gs4 Hpb.out.1 Hpb.out.2 ?_ (by first | exact Nat.le_refl _ | omega | (simp; done) | (simp; omega)) (Hownp.out.apart _ (Nat.le_refl _)); repeat' (first | exact Same.refl _ _ | assumption | refine Same.drew ?_ | refine Same.drewN ?_ _ | refine Same.alloc ?_ _ | refine Same.setCell ?_ (fun hq => by simp only [From] at hq; first | omega | (simp at hq; done) | (simp at hq; omega)) _))); intro v7 w7 hown7 hbw7; have hb17 : Below w1.heap.size w1 w7 := (((hbp.next hb6 hbpz).alloc (by first | exact Nat.le_refl _ | omega | (simp; done) | (simp; omega)) _).alloc (by first | exact Nat.le_refl _ | omega | (simp; done) | (simp; omega)) _).trans hbw7; have hz17 := hb17.size; obtain ⟨g7, g8, hc7, hc8⟩ := Hcells.out w7 hb17))
                go_quiet ((go_at_call 89; exact quiet_left ((refSameBytes_ok _ K0 P x.1 p.1 c3 pc ((hs1.bz.bbelow hb17).bsame (by repeat' (first | exact Same.refl _ _ | assumption | refine Same.drew ?_ | refine Same.drewN ?_ _ | refine Same.alloc ?_ _ | refine Same.setCell ?_ (fun hq => by simp only [From] at hq; first | omega | (simp at hq; done) | (simp at hq; omega)) _))) ((Hp11.out.bbelow hb17).bsame (by repeat' (first | exact Same.refl _ _ | assumption | refine Same.drew ?_ | refine Same.drewN ?_ _ | refine Same.alloc ?_ _ | refine Same.setCell ?_ (fun hq => by simp only [From] at hq; first | omega | (simp at hq; done) | (simp at hq; omega)) _)))))))
                generalize hwq : World.drewN w7 _ = wq
                have hbq : Below w1.heap.size w1 wq := hwq ▸ below_drewN hb17 _
                have Hownq := Lib.hid (show Own 2 PairR (From w1.heap.size) wq w1.heap.size 39 _ (out ++ [p]) from hwq ▸ hown7.below pairR_stays (below_drewN (Below.refl _ _) _))
                clear hwq
                have hbqz := hbq.size
                obtain ⟨g2, g3, hc3, hc4⟩ := Hcells.out wq hbq
                go_wp2_with (first
                  | (go_at_call 94; (with_reducible refine (pairCopy_ok _ K0 V0 x c3 d3 ?h1 ?h2 hb1 hb2).mono ?_); (case h1 => (refine hs1.bz.bbelow ?_; repeat' (first | exact Below.refl _ _ | assumption | refine Below.drew ?_ | refine below_drewN ?_ _ | refine Below.setCell ?_ (by first | (simp; done) | omega | (simp; omega)) _ | refine Below.alloc ?_ (by first | exact Nat.le_refl _ | omega | (simp; done) | (simp; omega)) _))); (case h2 => (refine hs2.bz.bbelow ?_; repeat' (first | exact Below.refl _ _ | assumption | refine Below.drew ?_ | refine below_drewN ?_ _ | refine Below.setCell ?_ (by first | (simp; done) | omega | (simp; omega)) _ | refine Below.alloc ?_ (by first | exact Nat.le_refl _ | omega | (simp; done) | (simp; omega)) _))); rintro e w4 ⟨A1, c4, A2, d2, rfl, gs1, gs2, hb4⟩; have hb4z := hb4.size)
                  | (at_builtin; refine wpl_snoc pairR_stays (S := From w1.heap.size) _ rfl (.tmp 61) (.tmp 63) _ rfl w1.heap.size 39 i0 _ 2 48 Try.underlying22 hi0 hz0 hz1 hz2 rfl (by decide) _ (out ++ [p]) rfl ?hown _ _ [.slice A1 x.1.length c4, .slice A2 x.2.length d2] rfl rfl (new_src _ _ [.slice A1 x.1.length c4, .slice A2 x.2.length d2] _ (by simp)) (by simp [Value.oneCell']) ?hm ?hby ?hba x ?hd ?_; (case hown => (refine Own.below pairR_stays Hownq.out ?_; repeat' (first | exact Below.refl _ _ | assumption | refine Below.drew ?_ | refine below_drewN ?_ _ | refine Below.setCell ?_ (by first | (simp; done) | omega | (simp; omega)) _ | refine Below.alloc ?_ (by first | exact Nat.le_refl _ | omega | (simp; done) | (simp; omega)) _))); (case hm => ((try simp only [List.length_append, List.length_singleton]); simp only [maxLen]; omega)); (case hby => ((try simp only [List.length_append, List.length_singleton]); omega)); (case hba => (simp; omega)); (case hd => (refine pair_fresh (n := wq.heap.size) gs1 gs2 hb1 hb2 ?_ (by first | exact Nat.le_refl _ | omega | (simp; done) | (simp; omega)) (Hownq.out.apart _ (Nat.le_refl _)); repeat' (first | exact Same.refl _ _ | assumption | refine Same.drew ?_ | refine Same.drewN ?_ _ | refine Same.alloc ?_ _ | refine Same.setCell ?_ (fun hq => by simp only [From] at hq; first | omega | (simp at hq; done) | (simp at hq; omega)) _))); intro v1 w5 hown2 hbw2))
                go_roundw
                case rel => exact ⟨j + 1, by omega, by go_num, by rw [Hst.out, Hq.out], by rw [Hst.out, Hq.out]; simpa using hown2, (((hbq.next hb4 hbqz).alloc (by first | exact Nat.le_refl _ | omega | (simp; done) | (simp; omega)) _).alloc (by first | exact Nat.le_refl _ | omega | (simp; done) | (simp; omega)) _).trans hbw2⟩
                case measure => simp [intOf]; omega
        · obtain rfl : j = l.length := by omega
          have Hput : ∀ s, putFold p (l.take l.length) = s → putAll p l = (if s.2 then s.1 else s.1 ++ [p]) := fun s hs => by rw [List.take_length] at hs; simp only [putAll, hs]
          have hlen := putFold_len p l l.length (Nat.le_refl _)
          generalize putFold p (l.take l.length) = s at *
          have Hval := Lib.hid (Hput s rfl)
          obtain ⟨out, dn⟩ := s
          have h60 := Hl.out
          dsimp only at hlen
          clear Hput
          have hb0 : Below w.heap.size w wr := Hb01.out.next hbel (by omega)
          cases dn with
          | true =>
            obtain ⟨A5, c5, rfl, hcc5, hsl⟩ := hown.readc pairR_stays
            by_cases hbig : 60 < out.length
            · have Hv := Lib.hid (show putS l p = ([], 11) by simp [putS, Hpp.out, Hval.out, hbig])
              clear hown hsl
              go_wp2
              go_ret2
              rw [Hv.out]
              exact ⟨none, 0, rfl, Nat.le_refl _, SL.nil, hb0⟩
            · have Hv := Lib.hid (show putS l p = (out, 0) by simp [putS, Hpp.out, Hval.out, hbig])
              have Hsl := Lib.hid hsl
              clear hown hsl
              go_wp2
              go_ret2
              rw [Hv.out]
              exact ⟨A5, c5, rfl, hcc5, Hsl.out.lo pairR_stays (by omega), hb0⟩
          | false =>
            have Hown := Lib.hid hown
            obtain ⟨g0, g1, _, _⟩ := box2 ((hbel.block _ hzb).trans Hbox.out)
            clear hown
            by_cases hbig : 60 < out.length + 1
            · have Hv := Lib.hid (show putS l p = ([], 11) by simp [putS, Hpp.out, Hval.out, hbig])
              go_wp2_with (first
                | (go_at_call 94; (with_reducible refine (pairCopy_ok _ P Q p pc pd ?h1 ?h2 Hpb.out.1 Hpb.out.2).mono ?_); (case h1 => (refine Hp11.out.bbelow ?_; repeat' (first | exact Below.refl _ _ | assumption | refine Below.drew ?_ | refine below_drewN ?_ _ | refine Below.setCell ?_ (by first | (simp; done) | omega | (simp; omega)) _ | refine Below.alloc ?_ (by first | exact Nat.le_refl _ | omega | (simp; done) | (simp; omega)) _))); (case h2 => (refine Hp21.out.bbelow ?_; repeat' (first | exact Below.refl _ _ | assumption | refine Below.drew ?_ | refine below_drewN ?_ _ | refine Below.setCell ?_ (by first | (simp; done) | omega | (simp; omega)) _ | refine Below.alloc ?_ (by first | exact Nat.le_refl _ | omega | (simp; done) | (simp; omega)) _))); rintro e w4 ⟨A1, c4, A2, d2, rfl, gs1, gs2, hb4⟩; have hb4z := hb4.size)
                | (at_builtin; refine wpl_snoc pairR_stays (S := From w1.heap.size) _ rfl (.tmp 69) (.tmp 71) _ rfl w1.heap.size 39 i0 _ 2 48 Try.underlying22 hi0 hz0 hz1 hz2 rfl (by decide) _ (out) rfl ?hown _ _ [.slice A1 p.1.length c4, .slice A2 p.2.length d2] rfl rfl (new_src _ _ [.slice A1 p.1.length c4, .slice A2 p.2.length d2] _ (by simp)) (by simp [Value.oneCell']) ?hm ?hby ?hba p ?hd ?_; (case hown => (refine Own.below pairR_stays Hown.out ?_; repeat' (first | exact Below.refl _ _ | assumption | refine Below.drew ?_ | refine below_drewN ?_ _ | refine Below.setCell ?_ (by first | (simp; done) | omega | (simp; omega)) _ | refine Below.alloc ?_ (by first | exact Nat.le_refl _ | omega | (simp; done) | (simp; omega)) _))); (case hm => ((try simp only [List.length_append, List.length_singleton]); simp only [maxLen]; omega)); (case hby => ((try simp only [List.length_append, List.length_singleton]); omega)); (case hba => (simp; omega)); (case hd => (refine pair_fresh (n := wr.heap.size) gs1 gs2 Hpb.out.1 Hpb.out.2 ?_ (by first | exact Nat.le_refl _ | omega | (simp; done) | (simp; omega)) (Hown.out.apart _ (Nat.le_refl _)); repeat' (first | exact Same.refl _ _ | assumption | refine Same.drew ?_ | refine Same.drewN ?_ _ | refine Same.alloc ?_ _ | refine Same.setCell ?_ (fun hq => by simp only [From] at hq; first | omega | (simp at hq; done) | (simp at hq; omega)) _))); intro v1 w5 hown2 hbw2; obtain ⟨A5, c5, rfl, hcc5, hsl⟩ := hown2.readc pairR_stays; have Hcc5 := Lib.hid hcc5; clear hcc5; rw [List.length_append, List.length_singleton]; have Hsl := Lib.hid hsl; clear hsl hown2; have hb15 : Below w1.heap.size w1 w5 := (((hbel.next hb4 hbz).alloc (by first | exact Nat.le_refl _ | omega | (simp; done) | (simp; omega)) _).alloc (by first | exact Nat.le_refl _ | omega | (simp; done) | (simp; omega)) _).trans hbw2; have hb05 : Below w.heap.size w w5 := Hb01.out.next hb15 (by omega)))
              go_ret2
              rw [Hv.out]
              exact ⟨none, 0, rfl, Nat.le_refl _, SL.nil, hb05⟩
            · have Hv := Lib.hid (show putS l p = (out ++ [p], 0) by simp [putS, Hpp.out, Hval.out, hbig])
              go_wp2_with (first
                | (go_at_call 94; (with_reducible refine (pairCopy_ok _ P Q p pc pd ?h1 ?h2 Hpb.out.1 Hpb.out.2).mono ?_); (case h1 => (refine Hp11.out.bbelow ?_; repeat' (first | exact Below.refl _ _ | assumption | refine Below.drew ?_ | refine below_drewN ?_ _ | refine Below.setCell ?_ (by first | (simp; done) | omega | (simp; omega)) _ | refine Below.alloc ?_ (by first | exact Nat.le_refl _ | omega | (simp; done) | (simp; omega)) _))); (case h2 => (refine Hp21.out.bbelow ?_; repeat' (first | exact Below.refl _ _ | assumption | refine Below.drew ?_ | refine below_drewN ?_ _ | refine Below.setCell ?_ (by first | (simp; done) | omega | (simp; omega)) _ | refine Below.alloc ?_ (by first | exact Nat.le_refl _ | omega | (simp; done) | (simp; omega)) _))); rintro e w4 ⟨A1, c4, A2, d2, rfl, gs1, gs2, hb4⟩; have hb4z := hb4.size)
                | (at_builtin; refine wpl_snoc pairR_stays (S := From w1.heap.size) _ rfl (.tmp 69) (.tmp 71) _ rfl w1.heap.size 39 i0 _ 2 48 Try.underlying22 hi0 hz0 hz1 hz2 rfl (by decide) _ (out) rfl ?hown _ _ [.slice A1 p.1.length c4, .slice A2 p.2.length d2] rfl rfl (new_src _ _ [.slice A1 p.1.length c4, .slice A2 p.2.length d2] _ (by simp)) (by simp [Value.oneCell']) ?hm ?hby ?hba p ?hd ?_; (case hown => (refine Own.below pairR_stays Hown.out ?_; repeat' (first | exact Below.refl _ _ | assumption | refine Below.drew ?_ | refine below_drewN ?_ _ | refine Below.setCell ?_ (by first | (simp; done) | omega | (simp; omega)) _ | refine Below.alloc ?_ (by first | exact Nat.le_refl _ | omega | (simp; done) | (simp; omega)) _))); (case hm => ((try simp only [List.length_append, List.length_singleton]); simp only [maxLen]; omega)); (case hby => ((try simp only [List.length_append, List.length_singleton]); omega)); (case hba => (simp; omega)); (case hd => (refine pair_fresh (n := wr.heap.size) gs1 gs2 Hpb.out.1 Hpb.out.2 ?_ (by first | exact Nat.le_refl _ | omega | (simp; done) | (simp; omega)) (Hown.out.apart _ (Nat.le_refl _)); repeat' (first | exact Same.refl _ _ | assumption | refine Same.drew ?_ | refine Same.drewN ?_ _ | refine Same.alloc ?_ _ | refine Same.setCell ?_ (fun hq => by simp only [From] at hq; first | omega | (simp at hq; done) | (simp at hq; omega)) _))); intro v1 w5 hown2 hbw2; obtain ⟨A5, c5, rfl, hcc5, hsl⟩ := hown2.readc pairR_stays; have Hcc5 := Lib.hid hcc5; clear hcc5; rw [List.length_append, List.length_singleton]; have Hsl := Lib.hid hsl; clear hsl hown2; have hb15 : Below w1.heap.size w1 w5 := (((hbel.next hb4 hbz).alloc (by first | exact Nat.le_refl _ | omega | (simp; done) | (simp; omega)) _).alloc (by first | exact Nat.le_refl _ | omega | (simp; done) | (simp; omega)) _).trans hbw2; have hb05 : Below w.heap.size w w5 := Hb01.out.next hb15 (by omega)))
              go_ret2
              rw [Hv.out]
              exact ⟨A5, c5, by simp, Hcc5.out, Hsl.out.lo pairR_stays (by omega), hb05⟩
    · have b2 : (pairFaultS p != 0) = true := by simpa using h2
      have Hv := Lib.hid (show putS l p = ([], pairFaultS p) by simp [putS, ppFault, h1, h2])
      clear h1 h2
      go_enter Try.func35, Try.ntmps35
      go_wp2_with (first
        | (go_at_call 100; refine (pairsFault_ok _ A l c (Ha.out.below pairR_stays ?_)).mono ?_; (repeat' (first | exact Below.refl _ _ | assumption | refine Below.drew ?_ | refine below_drewN ?_ _ | refine Below.alloc ?_ (by first | exact Nat.le_refl _ | omega | (simp; done) | (simp; omega)) _)); rintro e w2 ⟨rfl, hb2⟩; have hg0 : w2.cell? ⟨w.heap.size, 0, none⟩ = some (.slice P p.1.length pc) := (hb2.cell (by first | (simp; done) | omega | (simp; omega))).trans (by simp); have hg1 : w2.cell? ⟨w.heap.size, 1, none⟩ = some (.slice Q p.2.length pd) := (hb2.cell (by first | (simp; done) | omega | (simp; omega))).trans (by simp))
        | (go_at_call 101; refine (pairFault_ok _ P Q p pc pd).mono ?_; rintro e w1 ⟨rfl, hb1⟩))
      go_ret2
      rw [Hv.out]
      exact ⟨none, 0, rfl, Nat.le_refl _, SL.nil, (((Below.refl w.heap.size w).alloc (Nat.le_refl _) _).next hb2 (by first | (simp; done) | omega | (simp; omega))).next hb1 (by have hz := hb2.size; simp at hz; omega)⟩
  · have b1 : (pairsFaultS l == 0) = false := by simp [h1]
    have b2 : (pairsFaultS l != 0) = true := by simpa using h1
    have Hv := Lib.hid (show putS l p = ([], pairsFaultS l) by simp [putS, ppFault, h1])
    clear h1
    go_enter Try.func35, Try.ntmps35
    go_wp2_with (go_at_call 100; refine (pairsFault_ok _ A l c (Ha.out.below pairR_stays ?_)).mono ?_; (repeat' (first | exact Below.refl _ _ | assumption | refine Below.drew ?_ | refine below_drewN ?_ _ | refine Below.alloc ?_ (by first | exact Nat.le_refl _ | omega | (simp; done) | (simp; omega)) _)); rintro e w2 ⟨rfl, hb2⟩)
    go_ret2
    rw [Hv.out]
    exact ⟨none, 0, rfl, Nat.le_refl _, SL.nil, ((Below.refl w.heap.size w).alloc (Nat.le_refl _) _).next hb2 (by first | (simp; done) | omega | (simp; omega))⟩
end Go.Proofs.Ythhcdibimnifaaa
