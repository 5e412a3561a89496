/- Walk: forest.own. -/
import Derived.Test.YthhcdibimnifaaaTenCopy
import Derived.Test.YthhcdibimnifaaaPut
namespace Go.Proofs.Ythhcdibimnifaaa
open Go.RowKit
set_option linter.unusedVariables false
set_option linter.unusedSimpArgs false

theorem Own.same_from {α : Type} {size : Nat} {R : (Nat → Prop) → World → List Value → α → Prop} {w w' : World} {base : Nat} {e : TypeId} {v : Value} {l : List α} (hR : Stays R) (h : Own size R (From base) w base e v l) (hb : Same (From base) w w') : Own size R (From base) w' base e v l := by
  obtain ⟨xs, h1, h2⟩ := h
  refine ⟨xs, ⟨h1.1, ?_⟩, fun i hi => hR.same _ _ _ _ _ ⟨hb.size, fun k hk hk' => hb.block k hk.1 hk'⟩ (h2 i hi)⟩
  rcases h1.2 with hn | ⟨g, cap, cur, hv, hb', hh, rest⟩
  · exact .inl hn
  · exact .inr ⟨g, cap, cur, hv, hb', by rw [hb.block g hb' (Array.getElem?_eq_some_iff.1 hh).1]; exact hh, rest⟩
set_option maxRecDepth 100000 in
set_option maxHeartbeats 4000000 in
theorem forestOwn_own (w : World) (A : Option Addr) (l : List Tn) (c : Nat) (ha : Ts All w A l) (hn : l.length * 48 ≤ 140737488355328) :
    Calls Try.prog 110 #[.slice A l.length c] w (RetOwnTs w l) := by
  obtain ⟨i0, hi0, hz0, hz1, hz2⟩ := info_parts info_ten
  obtain ⟨j0, hj0, hy0, hy1, hy2⟩ := info_parts info_pair
  have Ha := Lib.hid ha
  clear ha
  go_enter Try.func110, Try.ntmps110
  go_wp2
  go_loopw [3, 11] (fun v i wr => ∃ k : Nat, k ≤ l.length ∧ i = .int .i64 k ∧ Own 2 TenR (From w.heap.size) wr w.heap.size 122 v (l.take k) ∧ Below w.heap.size w wr) (fun _ i _ => l.length - (intOf i).toNat)
  case atStart => exact ⟨0, by omega, rfl, Own.nil _ _ _, Below.refl _ _⟩
  case round =>
    obtain ⟨k, hk, rfl, hown, hbel⟩ := hrel
    have Hbel := Lib.hid hbel
    have Hown := Lib.hid hown
    have hbz := hbel.size
    clear hown hbel
    by_cases hlt : k < l.length
    · obtain ⟨ab, ao, K, c1, V, d1, rfl, _, hal, hc1, hc2, hs1, hs2, hb1, hb2, _⟩ := tens_at Ha.out hlt
      replace hc1 := (Hbel.out.cell (p := ⟨ab, ao + k * 2, none⟩) hal).trans hc1
      replace hc2 := (Hbel.out.cell (p := ⟨ab, ao + k * 2 + 1, none⟩) hal).trans hc2
      have Hs1 := Lib.hid hs1
      have Hs2 := Lib.hid (hs2.z pairR_stays)
      have Hsn := Lib.hid (take_snoc l k hlt)
      generalize l[k] = x at *
      have hi0' : (0 : Int) ≤ (k : Int) := by omega
      have hi1 : (k : Int) < (l.length : Int) := by omega
      clear hs1 hs2
      go_wp2_with (go_at_call 86; (with_reducible refine (clone_ok _ K x.1 c1 ?ha hb1).mono ?_); (case ha => exact ((Hs1.out.bz.bbelow Hbel.out).bsame (by repeat' (first | exact Same.refl _ _ | assumption | refine Same.drew ?_ | refine Same.drewN ?_ _ | refine Same.alloc ?_ _ | refine Same.setCell ?_ (fun hq => by simp only [From] at hq; first | omega | (simp at hq; done) | (simp at hq; omega)) _)))); rintro e w1 ⟨A1, c3, rfl, gs1, hbw1⟩; have hx1 : w1.heap[wr.heap.size]? = some (.cells #[.slice K x.1.length c1, .slice V x.2.length d1] 122 (0, 0)) := (hbw1.block wr.heap.size (by first | (simp; done) | omega | (simp; omega))).trans (box_new wr _ _); have hzw1 : wr.heap.size < w1.heap.size := (by have := hbw1.size; simp at this; omega); obtain ⟨g0, g1, _, _⟩ := box2 hx1)
      have hb01 : Below wr.heap.size wr w1 := ((Below.refl wr.heap.size wr).alloc (Nat.le_refl _) _).next hbw1 (by simp)
      have hx5 : (w1.alloc (.cells #[.slice A1 x.1.length c3, .slice none 0 0] 122)).heap[w1.heap.size]? = some (.cells #[.slice A1 x.1.length c3, .slice none 0 0] 122 (0, 0)) := box_new w1 _ _
      have hb15 : Below w1.heap.size w1 (w1.alloc (.cells #[.slice A1 x.1.length c3, .slice none 0 0] 122)) := (Below.refl _ _).alloc (Nat.le_refl _) _
      have hz5 : (w1.alloc (.cells #[.slice A1 x.1.length c3, .slice none 0 0] 122)).heap.size = w1.heap.size + 1 := by simp
      generalize w1.alloc (.cells #[.slice A1 x.1.length c3, .slice none 0 0] 122) = w5 at *
      have Hz5 := Lib.hid hz5
      have hz5' : w1.heap.size < w5.heap.size := by omega
      have Hx5 := Lib.hid hx5
      have Hb15 := Lib.hid hb15
      have Hb01 := Lib.hid hb01
      have Gs1 := Lib.hid gs1
      clear hz5 hx5 hb15 hb01 hbw1 gs1 hx1 g0 g1 hc1 hc2
      obtain ⟨wm, rfl⟩ : ∃ wm : World, wm = wr := ⟨_, rfl⟩
      go_loopw [22] (fun i wr => ∃ (j : Nat) (v : Value), j ≤ x.2.length ∧ i = .int .i64 j ∧ Own 2 PairR (From w5.heap.size) wr w5.heap.size 39 v (x.2.take j) ∧ wr.heap[w1.heap.size]? = some (.cells #[.slice A1 x.1.length c3, v] 122 (0, 0)) ∧ Below w1.heap.size w5 wr) (fun i _ => x.2.length - (intOf i).toNat)
      case atStart => exact ⟨0, _, by omega, rfl, Own.nil _ _ _, Hx5.out, Below.refl _ _⟩
      case round =>
        obtain ⟨j, v, hj, rfl, hown2, hcx, hbel2⟩ := hrel
        have Hbel2 := Lib.hid hbel2
        have Hown2 := Lib.hid hown2
        have Hcx := Lib.hid hcx
        have hbz2 := hbel2.size
        have hb5 : Below wm.heap.size wm wr := (Hb01.out.next Hb15.out (by omega)).trans (hbel2.mono (by omega))
        have Hb5 := Lib.hid hb5
        have Hb0 := Lib.hid (Hbel.out.trans (hb5.mono hbz))
        clear hown2 hbel2 hcx hb5
        by_cases hlt2 : j < x.2.length
        · obtain ⟨pb, po, K2, c2, V2, d2, rfl, _, hpl, hp1, hp2, hq1, hq2, hqb1, hqb2⟩ := pairs_at (Hs2.out.below pairR_stays Hb0.out) hlt2
          have Hsn2 := Lib.hid (take_snoc x.2 j hlt2)
          generalize x.2[j] = q at *
          have Hq1 := Lib.hid hq1.bz
          have Hq2 := Lib.hid hq2.bz
          have hj0' : (0 : Int) ≤ (j : Int) := by omega
          have hj1 : (j : Int) < (x.2.length : Int) := by omega
          have hl8 : (x.2.take j ++ [q]).length = j + 1 := by rw [List.length_append, List.length_take, List.length_singleton]; omega
          clear hq1 hq2
          have hbox : (wr.alloc (.cells #[.slice K2 q.1.length c2, .slice V2 q.2.length d2] 39)).heap[w1.heap.size]? = some (.cells #[.slice A1 x.1.length c3, v] 122 (0, 0)) := by rw [heap_alloc_old _ _ (by omega)]; exact Hcx.out
          obtain ⟨gc0, gc1, _, _⟩ := box2 hbox
          have Hbox := Lib.hid hbox
          clear hbox
          go_wp2_with fail
          go_region_law (first
            | (go_simp; go_at_call 86; (with_reducible refine (clone_ok _ K2 q.1 c2 ?ha hqb1).mono ?_); (case ha => exact Hq1.out.bsame (by repeat' (first | exact Same.refl _ _ | assumption | refine Same.drew ?_ | refine Same.drewN ?_ _ | refine Same.alloc ?_ _ | refine Same.setCell ?_ (fun hq => by simp only [From] at hq; first | omega | (simp at hq; done) | (simp at hq; omega)) _))); rintro e w6 ⟨A6, c6, rfl, gs6, hbw6⟩; have hb6 : Below wr.heap.size wr w6 := (((Below.refl wr.heap.size wr).alloc (Nat.le_refl _) _).drew).next hbw6 (by simp); have hz6 : wr.heap.size < w6.heap.size := (by have := hbw6.size; simp at this; omega); have hbx6 : w6.heap[w1.heap.size]? = some (.cells #[.slice A1 x.1.length c3, v] 122 (0, 0)) := (hb6.block _ (by omega)).trans Hcx.out; obtain ⟨ga0, ga1, _, _⟩ := box2 hbx6; have hbp6 : w6.heap[wr.heap.size]? = some (.cells #[.slice K2 q.1.length c2, .slice V2 q.2.length d2] 39 (0, 0)) := (hbw6.block wr.heap.size (by first | (simp; done) | omega | (simp; omega))).trans (box_new wr _ _); obtain ⟨gb0, gb1, _, _⟩ := box2 hbp6; have hz16 : w1.heap.size < w6.heap.size := (by omega))
            | (go_simp; go_at_call 86; (with_reducible refine (clone_ok _ V2 q.2 d2 ?ha hqb2).mono ?_); (case ha => exact Hq2.out.bbelow hb6); rintro e w7 ⟨A7, c7, rfl, gs7, hbw7⟩; have hb7 : Below wr.heap.size wr w7 := hb6.next hbw7 (by first | exact Nat.le_refl _ | omega | (simp; done) | (simp; omega)); have hz7 : w6.heap.size ≤ w7.heap.size := hbw7.size; have hz17 : w1.heap.size < w7.heap.size := (by omega); have hbx7 : w7.heap[w1.heap.size]? = some (.cells #[.slice A1 x.1.length c3, v] 122 (0, 0)) := (hb7.block _ (by omega)).trans Hcx.out; obtain ⟨gd0, gd1, _, _⟩ := box2 hbx7; have hbp7 : w7.heap[wr.heap.size]? = some (.cells #[.slice K2 q.1.length c2, .slice V2 q.2.length d2] 39 (0, 0)) := (hbw7.block _ hz6).trans hbp6; obtain ⟨gf0, gf1, _, _⟩ := box2 hbp7)
            | (refine step_snocG pairR_stays (S := From w5.heap.size) _ rfl (.tmp 27) (.tmp 35) _ rfl w5.heap.size 39 j0 _ 2 48 Try.underlying22 hj0 hy0 hy1 hy2 rfl (by decide) v (x.2.take j) ?hs ?hown (some ⟨w7.heap.size, 0, none⟩) 1 [.slice A6 q.1.length c6, .slice A7 q.2.length c7] ?hx rfl (new_src w7 w7.heap.size [.slice A6 q.1.length c6, .slice A7 q.2.length c7] _ rfl) (by simp [Value.oneCell']) ?hm ?hby ?hba q ?hd ?_; (case hs => (simp [Act.eval, Act.put])); (case hx => (simp [Act.eval, Act.put])); (case hown => (refine Own.below pairR_stays Hown2.out ?_; exact (hb7.alloc (by first | exact Nat.le_refl _ | omega | (simp; done) | (simp; omega)) _))); (case hm => (simp only [List.length_take, maxLen]; omega)); (case hby => (simp only [List.length_take]; omega)); (case hba => (simp; omega)); (case hd => (refine pair_fresh (n := wr.heap.size) (gs6.bbelow hbw7 |>.blo (by first | exact Nat.le_refl _ | omega | (simp; done) | (simp; omega))) (gs7.blo (by first | exact Nat.le_refl _ | omega | (simp; done) | (simp; omega))) hqb1 hqb2 ?_ (by first | exact Nat.le_refl _ | omega | (simp; done) | (simp; omega)) (Hown2.out.apart _ (Nat.le_refl _)); repeat' (first | exact Same.refl _ _ | assumption | refine Same.drew ?_ | refine Same.drewN ?_ _ | refine Same.alloc ?_ _ | refine Same.setCell ?_ (fun hq => by simp only [From] at hq; first | omega | (simp at hq; done) | (simp at hq; omega)) _))); intro v8 w8 hown8 hbw8 hgr8; have hbp8 : w8.heap[wr.heap.size]? = some (.cells #[.slice K2 q.1.length c2, .slice V2 q.2.length d2] 39 (0, 0)) := (hgr8.block _ (by simp; omega) (fun e => Hown2.out.apart _ (Nat.le_refl _) _ (Nat.le_refl _) e.symm)).trans ((heap_alloc_old _ _ (by omega)).trans hbp7); obtain ⟨gh0, gh1, _, _⟩ := box2 hbp8; obtain ⟨A8, c8, rfl, _, _⟩ := hown8.readc pairR_stays; have Hown8 := Lib.hid hown8; clear hown8; have hbx8 : w8.heap[w1.heap.size]? = some (.cells #[.slice A1 x.1.length c3, v] 122 (0, 0)) := (hbw8.block _ hz5').trans ((heap_alloc_old _ _ (by first | exact Nat.le_refl _ | omega | (simp; done) | (simp; omega))).trans hbx7); obtain ⟨ge0, ge1, ge2, ge3⟩ := box2 hbx8))
          all_goals
            go_wp2
            go_roundw
            case rel => exact ⟨j + 1, _, by omega, by go_num, by rw [Hsn2.out]; exact Hown8.out.same_from pairR_stays ((Same.refl _ _).setCell (fun h => by simp only [From] at h; omega) _), by rw [heap_setCell_same _ _ _ _ _ _ hbx8, hl8]; rfl, (((Hbel2.out.trans (hb7.mono (by omega))).alloc (by omega) _).trans (hbw8.mono (by omega))).setCell (Nat.le_refl _) _⟩
            case measure => simp [intOf]; omega
        · obtain rfl : j = x.2.length := by omega
          have hfull : x.2.take x.2.length = x.2 := List.take_length
          have hown3 := Hown2.out
          rw [hfull] at hown3
          obtain ⟨A8, c8, rfl, hc8, hs8⟩ := hown3.readc pairR_stays
          have Hs8 := Lib.hid hs8
          obtain ⟨ge0, ge1, _, _⟩ := box2 Hcx.out
          have Gs1' := Lib.hid (Gs1.out.bbelow (Hb15.out.trans Hbel2.out))
          clear hs8 hown3 hfull Hown2
          go_wp2_with (at_builtin; refine wpl_snoc tenR_stays (S := From w.heap.size) _ rfl (.tmp 39) (.tmp 41) _ rfl w.heap.size 122 i0 _ 2 48 Try.underlying43 hi0 hz0 hz1 hz2 rfl (by decide) _ (l.take k) rfl ?hown _ _ [.slice A1 x.1.length c3, .slice A8 x.2.length c8] rfl rfl (new_src _ _ [.slice A1 x.1.length c3, .slice A8 x.2.length c8] _ (by simp)) (by simp [Value.oneCell']) ?hm ?hby ?hba x ?hd ?_; (case hown => exact Hown.out.below tenR_stays (Hb5.out.alloc (by first | exact Nat.le_refl _ | omega | (simp; done) | (simp; omega)) _)); (case hm => (simp only [List.length_take, maxLen]; omega)); (case hby => (simp only [List.length_take]; omega)); (case hba => (simp; omega)); (case hd => (refine ten_fresh (n := wm.heap.size) (Gs1'.out.blo (by simp)) (Hs8.out.lo pairR_stays (by omega)) hb1 hb2 hc8 ?_ (by first | exact Nat.le_refl _ | omega | (simp; done) | (simp; omega)) (Hown.out.apart _ (Nat.le_refl _)); repeat' (first | exact Same.refl _ _ | assumption | refine Same.drew ?_ | refine Same.drewN ?_ _ | refine Same.alloc ?_ _ | refine Same.setCell ?_ (fun hq => by simp only [From] at hq; first | omega | (simp at hq; done) | (simp at hq; omega)) _))); intro v9 w9 hown9 hbw9)
          go_roundw
          case rel => exact ⟨k + 1, by omega, by go_num, by rw [Hsn.out]; exact hown9, (Hb0.out.alloc (by first | exact Nat.le_refl _ | omega | (simp; done) | (simp; omega)) _).trans hbw9⟩
          case measure => simp [intOf]; omega
    · go_wp2
      go_ret
      obtain rfl : k = l.length := by omega
      have h := Hown.out
      rw [List.take_length] at h
      exact ⟨_, rfl, h, Hbel.out⟩
end Go.Proofs.Ythhcdibimnifaaa
