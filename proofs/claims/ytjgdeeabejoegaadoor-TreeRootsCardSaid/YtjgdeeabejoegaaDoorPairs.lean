/- Walks: lists of pairs: copied, checked. -/
import Derived.Test.YtjgdeeabejoegaaDoorPair
namespace Go.Proofs.YtjgdeeabejoegaaDoor
open Go.RowKit
set_option linter.unusedVariables false
set_option linter.unusedSimpArgs false

theorem info_pair : (Tryd.prog.info? 60).map (fun i => (i.zero, i.size, i.bytes)) = some (some (.agg #[.slice none 0 0, .slice none 0 0]), 2, 48) := by kernel_rfl

abbrev Ps (S : Nat → Prop) (w : World) (A : Option Addr) (l : List Pr) : Prop := SL 2 PairR S w A l
abbrev RetPs (w : World) (l : List Pr) (e : Ending) (w' : World) : Prop := RetSL 2 PairR w l e w'
theorem pairs_at {S : Nat → Prop} {w : World} {A : Option Addr} {l : List Pr} (h : Ps S w A l) {k : Nat} (hk : k < l.length) :
    ∃ b off K c V d, A = some ⟨b, off, none⟩ ∧ S b ∧ b < w.heap.size ∧ w.cell? ⟨b, off + k * 2, none⟩ = some (.slice K l[k].1.length c) ∧ w.cell? ⟨b, off + k * 2 + 1, none⟩ = some (.slice V l[k].2.length d) ∧
      Bs S w K l[k].1 ∧ Bs S w V l[k].2 ∧ l[k].1.length ≤ big ∧ l[k].2.length ≤ big := by
  obtain ⟨b, off, cs, e, h0, hlt, h1, h2, A', c, B', d, rfl, h3, h4, h5, h6⟩ := h.at hk
  exact ⟨b, off, A', c, B', d, e, h0, hlt, by simpa using h2 0 (by omega), by simpa using h2 1 (by omega), h3, h4, h5, h6⟩

set_option maxRecDepth 100000 in
set_option maxHeartbeats 400000 in
theorem pairsCopy_cap (w : World) (A : Option Addr) (l : List Pr) (c : Nat) (ha : Ps All w A l) (hn : l.length * 48 ≤ 140737488355328) :
    Calls Tryd.prog 46 #[.slice A l.length c] w (RetSLc 2 PairR w l) := by
  obtain ⟨i0, hi0, hz0, hz1, hz2⟩ := info_parts info_pair
  have Ha := Lib.hid ha
  clear ha
  go_enter Tryd.func46, Tryd.ntmps46
  go_wp2
  go_loopw [3, 4] (fun v i wr => ∃ k : Nat, k ≤ l.length ∧ i = .int .i64 k ∧ Own 2 PairR (From w.heap.size) wr w.heap.size 60 v (l.take k) ∧ Below w.heap.size w wr) (fun _ i _ => l.length - (intOf i).toNat)
  case atStart => exact ⟨0, by omega, rfl, Own.nil _ _ _, Below.refl _ _⟩
  case round =>
    obtain ⟨k, hk, rfl, hown, hbel⟩ := hrel
    have Hbel := Lib.hid hbel
    have Hown := Lib.hid hown
    clear hown hbel
    by_cases hlt : k < l.length
    · obtain ⟨ab, ao, K, c1, V, d1, rfl, _, hal, hc1, hc2, hs1, hs2, hb1, hb2⟩ := pairs_at (Ha.out.below pairR_stays Hbel.out) hlt
      have Hsn := Lib.hid (take_snoc l k hlt)
      generalize l[k] = x at *
      go_wp2_with (first
        | (go_at_call 73; refine (pairCopy_ok _ K V x c1 d1 hs1.bz hs2.bz hb1 hb2).mono ?_; rintro e w1 ⟨A1, c2, A2, d2, rfl, gs1, gs2, hbw1⟩)
        | (at_builtin; refine wpl_snoc pairR_stays (S := From w.heap.size) _ rfl _ _ _ rfl w.heap.size 60 i0 _ 2 48 Tryd.underlying48 hi0 hz0 hz1 hz2 rfl (by decide) _ (l.take k) rfl ?hown _ _ [.slice A1 x.1.length c2, .slice A2 x.2.length d2] rfl rfl (new_src _ _ [.slice A1 x.1.length c2, .slice A2 x.2.length d2] _ (by simp)) (by simp [Value.oneCell']) ?hm ?hby ?hba x ?hd ?_; (case hown => exact (Hown.out.below pairR_stays hbw1).same pairR_stays (((Same.refl _ _).alloc _).alloc _)); (case hm => simp only [List.length_take, maxLen]; omega); (case hby => simp only [List.length_take]; omega); (case hba => have hz1 := Hbel.out.size; have hz2 := hbw1.size; simp; omega); (case hd => exact ⟨A1, c2, A2, d2, rfl, (gs1.bsame (((Same.refl _ _).alloc _).alloc _)).bless fun b _ hs => ⟨Nat.le_trans Hbel.out.size hs, Hown.out.apart _ (Nat.le_refl _) b hs⟩, (gs2.bsame (((Same.refl _ _).alloc _).alloc _)).bless fun b _ hs => ⟨Nat.le_trans Hbel.out.size hs, Hown.out.apart _ (Nat.le_refl _) b hs⟩, hb1, hb2⟩); intro v1 w2 hown2 hbw2))
      go_roundw
      case rel => exact ⟨k + 1, by omega, by go_num, by rw [Hsn.out]; exact hown2, (((Hbel.out.next hbw1 Hbel.out.size).alloc (by have hz1 := Hbel.out.size; have hz2 := hbw1.size; omega) _).alloc (by have hz1 := Hbel.out.size; have hz2 := hbw1.size; simp; omega) _).trans hbw2⟩
      case measure => simp [intOf]; omega
    · go_wp2
      go_ret
      obtain rfl : k = l.length := by omega
      have h := Hown.out
      rw [List.take_length] at h
      obtain ⟨A', c', rfl, hcap, hsl⟩ := h.readc pairR_stays
      exact ⟨A', c', rfl, hcap, hsl, Hbel.out⟩

theorem pairsCopy_ok (w : World) (A : Option Addr) (l : List Pr) (c : Nat) (ha : Ps All w A l) (hn : l.length * 48 ≤ 140737488355328) :
    Calls Tryd.prog 46 #[.slice A l.length c] w (RetPs w l) :=
  (pairsCopy_cap w A l c ha hn).mono fun _ _ h => h.bare

/-! ### what is refused of pairs -/
/-- The first number that is not 0 of f k, f (k + 1), .. (n of them). -/
def firstBad (f : Nat → Int) : Nat → Nat → Int
  | 0, _ => 0
  | n + 1, k => if f k ≠ 0 then f k else firstBad f n (k + 1)
theorem firstBad_at (f : Nat → Int) {n k : Nat} (hk : k < n) : firstBad f (n - k) k = if f k ≠ 0 then f k else firstBad f (n - (k + 1)) (k + 1) := by
  obtain ⟨m, hm⟩ : ∃ m, n - k = m + 1 := ⟨n - k - 1, by omega⟩
  have e : n - (k + 1) = m := by omega
  rw [hm, e]
  rfl
def pairAt (l : List Pr) (i : Nat) : Int :=
  if pairFaultS (l.getD i ([], [])) ≠ 0 then pairFaultS (l.getD i ([], [])) else if 0 < i ∧ lt (l.getD (i - 1) ([], [])).1 (l.getD i ([], [])).1 = false then 3 else 0
/-- What PairsFault and tree.Check answer. -/
def pairsFaultS (l : List Pr) : Int := if 60 < l.length then 1 else firstBad (pairAt l) l.length 0
theorem pairAt_bad {l : List Pr} {k : Nat} (hk : k < l.length) (h : pairFaultS l[k] ≠ 0) : pairAt l k = pairFaultS l[k] := by
  simp [pairAt, hk, h]
theorem pairAt_order {l : List Pr} {k : Nat} (hk : k + 1 < l.length) (h : pairFaultS l[k + 1] = 0) (ho : lt l[k].1 l[k + 1].1 = false) : pairAt l (k + 1) = 3 := by
  have hk' : k < l.length := by omega
  simp [pairAt, hk, hk', h, ho]
theorem pairAt_ok {l : List Pr} {k : Nat} (hk : k + 1 < l.length) (h : pairFaultS l[k + 1] = 0) (ho : lt l[k].1 l[k + 1].1 = true) : pairAt l (k + 1) = 0 := by
  have hk' : k < l.length := by omega
  simp [pairAt, hk, hk', h, ho]
theorem pairAt_zero {l : List Pr} (hk : 0 < l.length) (h : pairFaultS l[0] = 0) : pairAt l 0 = 0 := by
  simp [pairAt, hk, h]

set_option maxRecDepth 100000 in
set_option maxHeartbeats 400000 in
theorem pairsFault_ok (w : World) (A : Option Addr) (l : List Pr) (c : Nat) (ha : Ps All w A l) :
    Calls Tryd.prog 49 #[.slice A l.length c] w (RetV w (.int .i64 (pairsFaultS l))) := by
  have Ha := Lib.hid ha
  clear ha
  by_cases hbig : 60 < l.length
  · go_enter Tryd.func49, Tryd.ntmps49
    go_wp2
    go_ret
    exact ⟨ret_int (by simp [pairsFaultS, hbig]), Below.refl _ _⟩
  · have Hv := Lib.hid (show pairsFaultS l = firstBad (pairAt l) l.length 0 by simp [pairsFaultS, hbig])
    have h60 : decide (60 < (l.length : Int)) = false := by simp; omega
    go_enter Tryd.func49, Tryd.ntmps49
    go_wp2
    clear h60
    go_loopw [3] (fun i wr => ∃ k : Nat, k ≤ l.length ∧ i = .int .i64 k ∧ firstBad (pairAt l) (l.length - k) k = pairsFaultS l ∧ Below w.heap.size w wr) (fun i _ => l.length - (intOf i).toNat)
    case atStart => exact ⟨0, by omega, rfl, by rw [Hv.out]; rfl, Below.refl _ _⟩
    case round =>
      obtain ⟨k, hk, rfl, hval, hbel⟩ := hrel
      have Hbel := Lib.hid hbel
      have Hval := Lib.hid hval
      clear hbel hval
      by_cases hlt : k < l.length
      · have Hstep := Lib.hid (firstBad_at (pairAt l) hlt)
        obtain ⟨ab, ao, K, c1, V, d1, rfl, _, hal, hc1, hc2, hs1, hs2, hb1, hb2⟩ := pairs_at (Ha.out.below pairR_stays Hbel.out) hlt
        clear hb1 hb2
        by_cases hf : pairFaultS l[k] = 0
        · have Hf := Lib.hid hf
          have hf' : (pairFaultS l[k] != 0) = false := by simp [hf]
          clear hf
          rcases k with _ | m
          · have Hz := Lib.hid (pairAt_zero hlt Hf.out)
            simp only [Nat.zero_mul, Nat.add_zero] at hc1 hc2
            generalize l[0] = x at *
            go_wp2_with (go_at_call 102; refine (pairFault_ok _ K V x c1 d1).mono ?_; rintro e w1 ⟨rfl, hbw1⟩)
            go_quiet (fail)
            go_wp2
            go_roundw
            case rel => exact ⟨1, by omega, rfl, by rw [← Hval.out, Hstep.out, Hz.out]; rfl, below_drewN (Hbel.out.next hbw1 Hbel.out.size) _⟩
            case measure => simp [intOf]; omega
          · have hm : m < l.length := by omega
            obtain ⟨ab0, ao0, K0, c0, V0, d0, he0, _, _, hc3, _, hs3, _, _, _⟩ := pairs_at (Ha.out.below pairR_stays Hbel.out) hm
            cases he0
            rcases Bool.eq_false_or_eq_true (lt l[m].1 l[m + 1].1) with ho | ho
            · have Hz := Lib.hid (pairAt_ok hlt Hf.out ho)
              generalize l[m + 1] = x at *
              generalize l[m] = q at *
              go_wp2_with (go_at_call 102; refine (pairFault_ok _ K V x c1 d1).mono ?_; rintro e w1 ⟨rfl, hbw1⟩)
              have hg1 := (hbw1.cell (p := ⟨ab, ao + (m + 1) * 2, none⟩) hal).trans hc1
              have hg3 := (hbw1.cell (p := ⟨ab, ao + m * 2, none⟩) hal).trans hc3
              clear hc1 hc2 hc3
              go_quiet ((go_at_call 103; exact Calls.quiet_of_same ((before_ok _ K0 K q.1 x.1 c0 c1 ((hs3.bz.bbelow hbw1).bsame ((Same.refl _ _).drewN _)) ((hs1.bz.bbelow hbw1).bsame ((Same.refl _ _).drewN _))).mono fun e w' h => ⟨h.1, h.2.symm⟩)))
              go_wp2
              go_roundw
              case rel => exact ⟨m + 2, by omega, by go_num, by rw [← Hval.out, Hstep.out, Hz.out]; rfl, below_drewN (Hbel.out.next hbw1 Hbel.out.size) _⟩
              case measure => simp [intOf]; omega
            · have Hz := Lib.hid (pairAt_order hlt Hf.out ho)
              generalize l[m + 1] = x at *
              generalize l[m] = q at *
              go_wp2_with (go_at_call 102; refine (pairFault_ok _ K V x c1 d1).mono ?_; rintro e w1 ⟨rfl, hbw1⟩)
              have hg1 := (hbw1.cell (p := ⟨ab, ao + (m + 1) * 2, none⟩) hal).trans hc1
              have hg3 := (hbw1.cell (p := ⟨ab, ao + m * 2, none⟩) hal).trans hc3
              clear hc1 hc2 hc3
              go_quiet ((go_at_call 103; exact Calls.quiet_of_same ((before_ok _ K0 K q.1 x.1 c0 c1 ((hs3.bz.bbelow hbw1).bsame ((Same.refl _ _).drewN _)) ((hs1.bz.bbelow hbw1).bsame ((Same.refl _ _).drewN _))).mono fun e w' h => ⟨h.1, h.2.symm⟩)))
              go_wp2
              go_ret
              exact ⟨ret_int (by rw [← Hval.out, Hstep.out, Hz.out]; rfl), below_drewN (Hbel.out.next hbw1 Hbel.out.size) _⟩
        · have Hz := Lib.hid (pairAt_bad hlt hf)
          have Hf := Lib.hid hf
          have hf' : (pairFaultS l[k] != 0) = true := by simpa using hf
          clear hf
          generalize l[k] = x at *
          go_wp2_with (go_at_call 102; refine (pairFault_ok _ K V x c1 d1).mono ?_; rintro e w1 ⟨rfl, hbw1⟩)
          go_ret
          exact ⟨ret_int (by rw [← Hval.out, Hstep.out, Hz.out, if_pos Hf.out]), Hbel.out.next hbw1 Hbel.out.size⟩
      · go_wp2
        go_ret
        obtain rfl : k = l.length := by omega
        have h := Hval.out
        simp [firstBad] at h
        exact ⟨ret_int h, Hbel.out⟩

set_option maxRecDepth 100000 in
set_option maxHeartbeats 400000 in
theorem treeCheck_ok (w : World) (A : Option Addr) (l : List Pr) (c : Nat) (ha : Ps All w A l) :
    Calls Tryd.prog 47 #[.slice A l.length c] w (RetV w (.int .i64 (pairsFaultS l))) := by
  have Ha := Lib.hid ha
  clear ha
  by_cases hbig : 60 < l.length
  · go_enter Tryd.func47, Tryd.ntmps47
    go_wp2
    go_ret
    exact ⟨ret_int (by simp [pairsFaultS, hbig]), Below.refl _ _⟩
  · have Hv := Lib.hid (show pairsFaultS l = firstBad (pairAt l) l.length 0 by simp [pairsFaultS, hbig])
    have h60 : decide (60 < (l.length : Int)) = false := by simp; omega
    go_enter Tryd.func47, Tryd.ntmps47
    go_wp2
    clear h60
    go_loopw [11] (fun i wr => ∃ k : Nat, k ≤ l.length ∧ i = .int .i64 k ∧ firstBad (pairAt l) (l.length - k) k = pairsFaultS l ∧ Below w.heap.size w wr) (fun i _ => l.length - (intOf i).toNat)
    case atStart => exact ⟨0, by omega, rfl, by rw [Hv.out]; rfl, Below.refl _ _⟩
    case round =>
      obtain ⟨k, hk, rfl, hval, hbel⟩ := hrel
      have Hbel := Lib.hid hbel
      have Hval := Lib.hid hval
      clear hbel hval
      by_cases hlt : k < l.length
      · have Hstep := Lib.hid (firstBad_at (pairAt l) hlt)
        obtain ⟨ab, ao, K, c1, V, d1, rfl, _, hal, hc1, hc2, hs1, hs2, hb1, hb2⟩ := pairs_at (Ha.out.below pairR_stays Hbel.out) hlt
        clear hb1 hb2
        by_cases hf : pairFaultS l[k] = 0
        · have Hf := Lib.hid hf
          have hf' : (pairFaultS l[k] != 0) = false := by simp [hf]
          clear hf
          rcases k with _ | m
          · have Hz := Lib.hid (pairAt_zero hlt Hf.out)
            simp only [Nat.zero_mul, Nat.add_zero] at hc1 hc2
            generalize l[0] = x at *
            go_wp2_with (go_at_call 97; refine (treePair_ok _ K V x c1 d1).mono ?_; rintro e w1 ⟨rfl, hbw1⟩)
            go_quiet (fail)
            go_wp2
            go_roundw
            case rel => exact ⟨1, by omega, rfl, by rw [← Hval.out, Hstep.out, Hz.out]; rfl, below_drewN (((Hbel.out.alloc Hbel.out.size _)).next hbw1 (by have hz1 := Hbel.out.size; simp; omega)) _⟩
            case measure => simp [intOf]; omega
          · have hm : m < l.length := by omega
            obtain ⟨ab0, ao0, K0, c0, V0, d0, he0, _, _, hc3, hc4, hs3, _, _, _⟩ := pairs_at (Ha.out.below pairR_stays Hbel.out) hm
            cases he0
            rcases Bool.eq_false_or_eq_true (lt l[m].1 l[m + 1].1) with ho | ho
            · have Hz := Lib.hid (pairAt_ok hlt Hf.out ho)
              have hcm : cmp3 l[m].1 l[m + 1].1 < 0 := by simp [cmp3, ho]
              generalize l[m + 1] = x at *
              generalize l[m] = q at *
              generalize hcmv : cmp3 q.1 x.1 = cm at hcm
              have Hcm := Lib.hid hcmv
              clear hcmv
              go_wp2_with (go_at_call 97; refine (treePair_ok _ K V x c1 d1).mono ?_; rintro e w1 ⟨rfl, hbw1⟩)
              have hold := (Below.refl wr.heap.size wr).alloc (Nat.le_refl _) (.cells #[.slice K x.1.length c1, .slice V x.2.length d1] 60)
              have hz1 : wr.heap.size + 1 ≤ w1.heap.size := by have hz := hbw1.size; simpa using hz
              have hg3 := (hbw1.cell (p := ⟨ab, ao + m * 2, none⟩) (by simp; omega)).trans ((hold.cell (p := ⟨ab, ao + m * 2, none⟩) hal).trans hc3)
              have hg4 := (hbw1.cell (p := ⟨ab, ao + m * 2 + 1, none⟩) (by simp; omega)).trans ((hold.cell (p := ⟨ab, ao + m * 2 + 1, none⟩) hal).trans hc4)
              have hg1 : w1.cell? ⟨wr.heap.size, 0, none⟩ = some (.slice K x.1.length c1) := (hbw1.cell (by first | (simp; done) | omega | (simp; omega))).trans (by simp)
              have hg2 : w1.cell? ⟨wr.heap.size, 1, none⟩ = some (.slice V x.2.length d1) := (hbw1.cell (by first | (simp; done) | omega | (simp; omega))).trans (by simp)
              have Ho1 := Lib.hid (hold.next hbw1 (by simp))
              clear hc1 hc2 hc3 hc4
              clear hold
              have hi0 : (0 : Int) ≤ (m : Int) := by omega
              have hi1 : (m : Int) < (l.length : Int) := by omega
              have hiw : IntKind.i64.wrap (m : Int) = (m : Int) := IntWalk.i64_in _ (by omega)
              go_region_held3 (fun w' => w'.cell? ⟨ab, ao + m * 2, none⟩ = some (.slice K0 q.1.length c0) ∧ w'.cell? ⟨ab, ao + m * 2 + 1, none⟩ = some (.slice V0 q.2.length d0) ∧ w'.cell? ⟨wr.heap.size, 0, none⟩ = some (.slice K x.1.length c1) ∧ w'.cell? ⟨wr.heap.size, 1, none⟩ = some (.slice V x.2.length d1))
                (first
                  | go_keep
                  | (go_split_ands; refine ⟨(hbw2.cell (by simp; omega)).trans (by assumption), (hbw2.cell (by simp; omega)).trans (by assumption), (hbw2.cell (by simp; omega)).trans (by assumption), (hbw2.cell (by simp; omega)).trans (by assumption)⟩))
                ((go_at_call 98; (with_reducible refine (compare_ok _ K0 V0 q c0 d0 K V x c1 d1 ?hp ?hq).mono ?_); (case hp => exact (hs3.bz.bbelow Ho1.out).bsame (Same.refl _ _).drew); (case hq => exact (hs1.bz.bbelow Ho1.out).bsame (Same.refl _ _).drew); rintro e w2 ⟨rfl, hbw2⟩; rw [Hcm.out]))
              go_wp2
              go_roundw
              case rel => exact ⟨m + 2, by omega, by go_num, by rw [← Hval.out, Hstep.out, Hz.out]; rfl, (Hbel.out.next Ho1.out Hbel.out.size).drew.next hbw2 (by have hz2 := Hbel.out.size; simp; omega)⟩
              case measure => simp [intOf]; omega
            · have Hz := Lib.hid (pairAt_order hlt Hf.out ho)
              have hcm : 0 ≤ cmp3 l[m].1 l[m + 1].1 := by simp only [cmp3, ho]; simp; split <;> omega
              generalize l[m + 1] = x at *
              generalize l[m] = q at *
              generalize hcmv : cmp3 q.1 x.1 = cm at hcm
              have Hcm := Lib.hid hcmv
              clear hcmv
              go_wp2_with (go_at_call 97; refine (treePair_ok _ K V x c1 d1).mono ?_; rintro e w1 ⟨rfl, hbw1⟩)
              have hold := (Below.refl wr.heap.size wr).alloc (Nat.le_refl _) (.cells #[.slice K x.1.length c1, .slice V x.2.length d1] 60)
              have hz1 : wr.heap.size + 1 ≤ w1.heap.size := by have hz := hbw1.size; simpa using hz
              have hg3 := (hbw1.cell (p := ⟨ab, ao + m * 2, none⟩) (by simp; omega)).trans ((hold.cell (p := ⟨ab, ao + m * 2, none⟩) hal).trans hc3)
              have hg4 := (hbw1.cell (p := ⟨ab, ao + m * 2 + 1, none⟩) (by simp; omega)).trans ((hold.cell (p := ⟨ab, ao + m * 2 + 1, none⟩) hal).trans hc4)
              have hg1 : w1.cell? ⟨wr.heap.size, 0, none⟩ = some (.slice K x.1.length c1) := (hbw1.cell (by first | (simp; done) | omega | (simp; omega))).trans (by simp)
              have hg2 : w1.cell? ⟨wr.heap.size, 1, none⟩ = some (.slice V x.2.length d1) := (hbw1.cell (by first | (simp; done) | omega | (simp; omega))).trans (by simp)
              have Ho1 := Lib.hid (hold.next hbw1 (by simp))
              clear hc1 hc2 hc3 hc4
              clear hold
              have hi0 : (0 : Int) ≤ (m : Int) := by omega
              have hi1 : (m : Int) < (l.length : Int) := by omega
              have hiw : IntKind.i64.wrap (m : Int) = (m : Int) := IntWalk.i64_in _ (by omega)
              go_region_held3 (fun w' => w'.cell? ⟨ab, ao + m * 2, none⟩ = some (.slice K0 q.1.length c0) ∧ w'.cell? ⟨ab, ao + m * 2 + 1, none⟩ = some (.slice V0 q.2.length d0) ∧ w'.cell? ⟨wr.heap.size, 0, none⟩ = some (.slice K x.1.length c1) ∧ w'.cell? ⟨wr.heap.size, 1, none⟩ = some (.slice V x.2.length d1))
                (first
                  | go_keep
                  | (go_split_ands; refine ⟨(hbw2.cell (by simp; omega)).trans (by assumption), (hbw2.cell (by simp; omega)).trans (by assumption), (hbw2.cell (by simp; omega)).trans (by assumption), (hbw2.cell (by simp; omega)).trans (by assumption)⟩))
                ((go_at_call 98; (with_reducible refine (compare_ok _ K0 V0 q c0 d0 K V x c1 d1 ?hp ?hq).mono ?_); (case hp => exact (hs3.bz.bbelow Ho1.out).bsame (Same.refl _ _).drew); (case hq => exact (hs1.bz.bbelow Ho1.out).bsame (Same.refl _ _).drew); rintro e w2 ⟨rfl, hbw2⟩; rw [Hcm.out]))
              go_wp2
              go_ret
              exact ⟨ret_int (by rw [← Hval.out, Hstep.out, Hz.out]; rfl), (Hbel.out.next Ho1.out Hbel.out.size).drew.next hbw2 (by have hz2 := Hbel.out.size; simp; omega)⟩
        · have Hz := Lib.hid (pairAt_bad hlt hf)
          have Hf := Lib.hid hf
          have hf' : (pairFaultS l[k] != 0) = true := by simpa using hf
          clear hf
          generalize l[k] = x at *
          go_wp2_with (go_at_call 97; refine (treePair_ok _ K V x c1 d1).mono ?_; rintro e w1 ⟨rfl, hbw1⟩)
          go_ret
          exact ⟨ret_int (by rw [← Hval.out, Hstep.out, Hz.out, if_pos Hf.out]), ((Hbel.out.alloc Hbel.out.size _)).next hbw1 (by have hz1 := Hbel.out.size; simp; omega)⟩
      · go_wp2
        go_ret
        obtain rfl : k = l.length := by omega
        have h := Hval.out
        simp [firstBad] at h
        exact ⟨ret_int h, Hbel.out⟩
end Go.Proofs.YtjgdeeabejoegaaDoor
