/- ChgI: Walk: the reference's inserted: one write among others, where it belongs. The conditions of each are in its words. -/
import Derived.Test.YthohkgggodhbcaaGreatKChgA
import Derived.Test.YthohkgggodhbcaaGreatKChgP
import Derived.Test.YthohkgggodhbcaaGreatKTxn
import Derived.Test.YthohkgggodhbcaaGreatKForestX
namespace Go.Proofs.YthohkgggodhbcaaGreat
open Go.RowKit
set_option linter.unusedVariables false
set_option linter.unusedSimpArgs false

/-- So far. -/
def insUp (x : Wr) (l : List Wr) (k : Nat) : List Wr × Bool := (l.take k).foldl (insStep plLt x) ([], false)
theorem insUp_next {x : Wr} {l : List Wr} {k : Nat} (h : k < l.length) : insUp x l (k + 1) = insStep plLt x (insUp x l k) l[k] := by
  unfold insUp
  rw [take_snoc _ _ h, List.foldl_append]
  rfl
theorem insUp_len (x : Wr) (l : List Wr) : ∀ k, k ≤ l.length → (insUp x l k).1.length ≤ k + (insUp x l k).2.toNat
  | 0, _ => Nat.zero_le _
  | k + 1, h => by
    have ih := insUp_len x l k (by omega)
    rw [insUp_next (by omega)]
    generalize insUp x l k = s at *
    obtain ⟨acc, d⟩ := s
    unfold insStep
    dsimp only at *
    cases d <;> cases hp : plLt x l[k] <;> simp_all <;> omega
theorem insUp_end (x : Wr) (l : List Wr) : (if (insUp x l l.length).2 = true then (insUp x l l.length).1 else (insUp x l l.length).1 ++ [x]) = insR plLt l x := by
  unfold insUp
  rw [List.take_length]
  simpa using ins_steps (r := plLt) x l []
theorem insUp_here {x : Wr} {l : List Wr} {k : Nat} {acc : List Wr} (h : k < l.length) (hs : insUp x l k = (acc, false)) (hp : plLt x l[k] = true) : insUp x l (k + 1) = (acc ++ [x] ++ [l[k]], true) := by
  rw [insUp_next h, hs]
  simp [insStep, hp]
theorem insUp_past {x : Wr} {l : List Wr} {k : Nat} {acc : List Wr} (h : k < l.length) (hs : insUp x l k = (acc, false)) (hp : plLt x l[k] = false) : insUp x l (k + 1) = (acc ++ [l[k]], false) := by
  rw [insUp_next h, hs]
  simp [insStep, hp]
theorem insUp_done {x : Wr} {l : List Wr} {k : Nat} {acc : List Wr} (h : k < l.length) (hs : insUp x l k = (acc, true)) : insUp x l (k + 1) = (acc ++ [l[k]], true) := by
  rw [insUp_next h, hs]
  simp [insStep]
theorem wr_old {m n : Nat} {w W : World} {v : Value} {A B C : Option Addr} {x : Wr} {a b c : Nat} (h1 : Bs (fun b => m ≤ b ∧ b < n) w A x.name) (h2 : Bs (fun b => m ≤ b ∧ b < n) w B x.key) (h3 : Bs (fun b => m ≤ b ∧ b < n) w C x.value) (g1 : x.name.length ≤ big) (g2 : x.key.length ≤ big) (g3 : x.value.length ≤ big) (hs : Below w.heap.size w W) (hap : ∀ b, v.ownBlock = some b → n ≤ b) :
    WrR (fun b => (m ≤ b ∧ b < n) ∧ v.ownBlock ≠ some b) W [.slice A x.name.length a, .slice B x.key.length b, .bool x.flag, .slice C x.value.length c] x :=
  ⟨A, a, B, b, C, c, rfl, (h1.bbelow hs).bless fun b _ h => ⟨h, fun e => by have := hap b e; omega⟩, (h2.bbelow hs).bless fun b _ h => ⟨h, fun e => by have := hap b e; omega⟩, (h3.bbelow hs).bless fun b _ h => ⟨h, fun e => by have := hap b e; omega⟩, g1, g2, g3⟩
theorem room2 {acc : List Wr} {x : Wr} {k L : Nat} (h : acc.length ≤ k) (hk : k < L) (hn : (L + 1) * 80 ≤ 140737488355328) : (acc ++ [x]).length + 1 ≤ maxLen ∧ ((acc ++ [x]).length + 1) * 80 ≤ 140737488355328 := by
  have e : (acc ++ [x]).length = acc.length + 1 := by simp
  have h1 : (acc ++ [x]).length + 1 ≤ L + 1 := by omega
  have h2 : ((acc ++ [x]).length + 1) * 80 ≤ (L + 1) * 80 := Nat.mul_le_mul_right _ h1
  have h3 : L + 1 ≤ maxLen := by simp only [maxLen]; omega
  exact ⟨Nat.le_trans h1 h3, Nat.le_trans h2 hn⟩
/-- The call returns writes, in blocks from m on. -/
def RetFrom (m : Nat) (w : World) (l : List Wr) (e : Ending) (w' : World) : Prop := ∃ A c, e = .returned (.slice A l.length c) ∧ Ws (From m) w' A l ∧ Below w.heap.size w w'
theorem own_from_m {m n : Nat} {w : World} {e : TypeId} {v : Value} {l : List Wr} (h : Own 4 WrR (fun b => m ≤ b ∧ b < n) w n e v l) (hm : m ≤ n) : ∃ A c, v = .slice A l.length c ∧ Ws (From m) w A l := by
  obtain ⟨A, c, rfl⟩ := own_slice h
  exact ⟨A, c, rfl, (h.keep wrR_stays (Same.refl All w) (fun _ _ _ => trivial) (fun _ _ => trivial) (S2 := From m) (fun b _ hb => hb.1) (Nat.le_refl _)).sl wrR_stays fun b hb _ => Nat.le_trans hm hb⟩
set_option maxRecDepth 100000 in
set_option maxHeartbeats 2000000 in
theorem inserted_ok (w : World) (m : Nat) (A : Option Addr) (l : List Wr) (c : Nat) (A1 B1 C1 : Option Addr) (x : Wr) (a1 b1 c1 : Nat) (hm : m ≤ w.heap.size) (ha : Ws (From m) w A l) (h1 : Bs (From m) w A1 x.name) (h2 : Bs (From m) w B1 x.key) (h3 : Bs (From m) w C1 x.value) (g1 : x.name.length ≤ big) (g2 : x.key.length ≤ big) (g3 : x.value.length ≤ big) (hn : (l.length + 1) * 80 ≤ 140737488355328) :
    Calls Tryz.prog 16 #[.slice A l.length c, .agg #[.slice A1 x.name.length a1, .slice B1 x.key.length b1, .bool x.flag, .slice C1 x.value.length c1]] w (RetFrom m w (insR plLt l x)) := by
  obtain ⟨i0, hi0, hz0, hz1, hz2⟩ := info_parts info_wr
  have hwg := (Below.refl w.heap.size w).alloc (Nat.le_refl _) (.cells #[.slice A1 x.name.length a1, .slice B1 x.key.length b1, .bool x.flag, .slice C1 x.value.length c1] 40)
  have hbg := box_new w #[.slice A1 x.name.length a1, .slice B1 x.key.length b1, .bool x.flag, .slice C1 x.value.length c1] 40
  have hsz : (w.alloc (.cells #[.slice A1 x.name.length a1, .slice B1 x.key.length b1, .bool x.flag, .slice C1 x.value.length c1] 40)).heap.size = w.heap.size + 1 := by simp
  have Ha := Lib.hid (ha.below wrR_stays hwg)
  have H1 := Lib.hid (h1.bbelow hwg)
  have H2 := Lib.hid (h2.bbelow hwg)
  have H3 := Lib.hid (h3.bbelow hwg)
  have Hwg := Lib.hid hwg
  clear ha h1 h2 h3
  go_enter Tryz.func16, Tryz.ntmps16
  go_upto_region 1 with fail
  obtain ⟨wg, hwge⟩ : ∃ wg, wg = w.alloc (.cells #[.slice A1 x.name.length a1, .slice B1 x.key.length b1, .bool x.flag, .slice C1 x.value.length c1] 40) := ⟨_, rfl⟩
  rw [← hwge] at hbg hsz Ha H1 H2 H3 Hwg ⊢
  obtain ⟨gb, hgbe⟩ : ∃ gb, gb = w.heap.size := ⟨_, rfl⟩
  rw [← hgbe] at hbg hm hsz ⊢
  have hgl : gb < wg.heap.size := by omega
  have Hbg := Lib.hid hbg
  have hmg : m ≤ wg.heap.size := by omega
  have Hgbe := Lib.hid hgbe
  have Ha := Lib.hid (Ha.out.less wrR_stays (S' := fun b => m ≤ b ∧ b < wg.heap.size) fun b hb h => ⟨h, hb⟩)
  have H1 := Lib.hid (H1.out.bless (S' := fun b => m ≤ b ∧ b < wg.heap.size) fun b hb h => ⟨h, hb⟩)
  have H2 := Lib.hid (H2.out.bless (S' := fun b => m ≤ b ∧ b < wg.heap.size) fun b hb h => ⟨h, hb⟩)
  have H3 := Lib.hid (H3.out.bless (S' := fun b => m ≤ b ∧ b < wg.heap.size) fun b hb h => ⟨h, hb⟩)
  clear hwge hgbe hwg hbg hsz
  go_wp2
  go_loopw [5, 6, 7] (fun v d i wr => ∃ (k : Nat) (acc : List Wr) (dn : Bool), k ≤ l.length ∧ d = .bool dn ∧ i = .int .i64 k ∧ insUp x l k = (acc, dn) ∧ Own 4 WrR (fun b => m ≤ b ∧ b < wg.heap.size) wr wg.heap.size 40 v acc ∧ Below wg.heap.size wg wr) (fun _ _ i _ => l.length - (intOf i).toNat)
  case atStart => exact ⟨0, [], false, by omega, rfl, rfl, rfl, Own.nil _ _ _, Below.refl _ _⟩
  case round =>
    obtain ⟨k, acc, dn, hk, rfl, rfl, hup, hown, hbel⟩ := hrel
    have Hbel := Lib.hid hbel
    have Hown := Lib.hid hown
    have hbz := hbel.size
    have hac := insUp_len x l k hk
    rw [hup] at hac
    have Hup := Lib.hid hup
    have Hlow := Lib.hid hown.low
    have hbox := (hbel.block gb hgl).trans Hbg.out
    clear hown hbel hup
    by_cases hlt : k < l.length
    · obtain ⟨g, off, A2, a2, B2, b2, C2, c2, rfl, _, hal, hc1, hc2, hc3, hc4, hs1, hs2, hs3, hb1, hb2, hb3⟩ := wrs_at Ha.out hlt
      have Hc := Lib.hid (fun W (h : Below wg.heap.size wg W) => And.intro ((h.cell (p := ⟨g, off + k * 4, none⟩) hal).trans hc1) (And.intro ((h.cell (p := ⟨g, off + k * 4 + 1, none⟩) hal).trans hc2) (And.intro ((h.cell (p := ⟨g, off + k * 4 + 2, none⟩) hal).trans hc3) ((h.cell (p := ⟨g, off + k * 4 + 3, none⟩) hal).trans hc4))))
      clear hc1 hc2 hc3 hc4
      obtain ⟨hc1, hc2, hc3, hc4⟩ := Hc.out _ Hbel.out
      have hgw : g < wr.heap.size := by omega
      obtain ⟨o0, o1, o2, o3, _⟩ := box4 hbox
      have hgr : gb < wr.heap.size := by omega
      have Hs1 := Lib.hid hs1
      have Hs2 := Lib.hid hs2
      have Hs3 := Lib.hid hs3
      have hi0' : (0 : Int) ≤ (k : Int) := by omega
      have hi1 : (k : Int) < (l.length : Int) := by omega
      clear hs1 hs2 hs3 hbox
      cases dn with
      | true =>
        have hac' : acc.length ≤ k + 1 := hac
        have HB1 := Lib.hid (show acc.length + 1 ≤ maxLen ∧ (acc.length + 1) * 80 ≤ 140737488355328 from ⟨by simp only [maxLen]; omega, by omega⟩)
        have Hn := Lib.hid (insUp_done hlt Hup.out)
        generalize l[k] = y at *
        clear hac
        go_wp2_with fail
        go_quiet (fail)
        generalize hwq : World.drewN wr _ = wq
        have Hbq := Lib.hid (show Below wg.heap.size wg wq from hwq ▸ below_drewN Hbel.out _)
        have Hownq := Lib.hid (Hown.out.below wrR_stays (show Below wr.heap.size wr wq from hwq ▸ below_drewN (Below.refl _ _) _))
        have hbzq := Hbq.out.size
        clear hwq hc1 hc2 hc3 hc4
        obtain ⟨hc1, hc2, hc3, hc4⟩ := Hc.out _ Hbq.out
        have hgq : g < wq.heap.size := by omega
        go_wp2_with (at_builtin; refine wpl_snoc wrR_stays (S := fun b => m ≤ b ∧ b < wg.heap.size) _ rfl _ _ _ rfl wg.heap.size 40 i0 _ 4 80 Tryz.underlying24 hi0 hz0 hz1 hz2 rfl (by decide) _ (acc) rfl ?hown _ _ [.slice A2 y.name.length a2, .slice B2 y.key.length b2, .bool y.flag, .slice C2 y.value.length c2] rfl rfl (new_src _ _ [.slice A2 y.name.length a2, .slice B2 y.key.length b2, .bool y.flag, .slice C2 y.value.length c2] _ (by simp)) (by simp [Value.oneCell']) ?hm ?hby ?hba y ?hd ?_; (case hown => exact Own.below wrR_stays Hownq.out ((Below.refl _ _).alloc (Nat.le_refl _) _)); (case hm => exact HB1.out.1); (case hby => exact HB1.out.2); (case hba => (simp; omega)); (case hd => (refine wr_old Hs1.out Hs2.out Hs3.out hb1 hb2 hb3 ?_ Hlow.out; exact Hbq.out.alloc hbzq _)); intro v1 w2 hownw2 hbw2)
        go_roundw
        case rel => exact ⟨k + 1, acc ++ [y], true, by omega, rfl, by go_num, Hn.out, hownw2, ((Hbq.out.alloc hbzq _).trans hbw2)⟩
        case measure => simp [intOf]; omega
      | false =>
        have hac' : acc.length ≤ k := hac
        have HB1 := Lib.hid (show acc.length + 1 ≤ maxLen ∧ (acc.length + 1) * 80 ≤ 140737488355328 from ⟨by simp only [maxLen]; omega, by omega⟩)
        have HB2 := Lib.hid (show (acc ++ [x]).length + 1 ≤ maxLen ∧ ((acc ++ [x]).length + 1) * 80 ≤ 140737488355328 from room2 hac' hlt hn)
        rcases Bool.eq_false_or_eq_true (plLt x l[k]) with hp | hp
        · have Hn := Lib.hid (insUp_here hlt Hup.out hp)
          have Hp := Lib.hid hp
          generalize l[k] = y at *
          clear hac hp
          go_wp2_with fail
          go_region_held3 (fun w' => w'.cell? ⟨gb, 0, none⟩ = some (.slice A1 x.name.length a1) ∧ w'.cell? ⟨gb, 1, none⟩ = some (.slice B1 x.key.length b1) ∧ w'.cell? ⟨gb, 2, none⟩ = some (.bool x.flag) ∧ w'.cell? ⟨gb, 3, none⟩ = some (.slice C1 x.value.length c1) ∧ w'.cell? ⟨g, off + k * 4, none⟩ = some (.slice A2 y.name.length a2) ∧ w'.cell? ⟨g, off + k * 4 + 1, none⟩ = some (.slice B2 y.key.length b2) ∧ w'.cell? ⟨g, off + k * 4 + 2, none⟩ = some (.bool y.flag) ∧ w'.cell? ⟨g, off + k * 4 + 3, none⟩ = some (.slice C2 y.value.length c2))
            (first
              | (with_reducible exact ⟨p0, p1, p2, p3, p4, p5, p6, p7⟩)
              | go_keep)
            ((go_at_call 36; (with_reducible refine (placedBefore_ok _ A1 B1 C1 A2 B2 C2 x y a1 b1 c1 a2 b2 c2 ?g1 ?g2 ?g3 ?g4).mono ?_); (case g1 => exact ((H1.out.bbelow Hbel.out).bsame (by repeat' (first | exact Same.refl _ _ | assumption | refine Same.drew ?_ | refine Same.drewN ?_ _ | refine Same.alloc ?_ _ | refine Same.setCell ?_ (fun hq => by simp only [From] at hq; first | omega | (simp at hq; done) | (simp at hq; omega)) _))).bz); (case g2 => exact ((H2.out.bbelow Hbel.out).bsame (by repeat' (first | exact Same.refl _ _ | assumption | refine Same.drew ?_ | refine Same.drewN ?_ _ | refine Same.alloc ?_ _ | refine Same.setCell ?_ (fun hq => by simp only [From] at hq; first | omega | (simp at hq; done) | (simp at hq; omega)) _))).bz); (case g3 => exact ((Hs1.out.bbelow Hbel.out).bsame (by repeat' (first | exact Same.refl _ _ | assumption | refine Same.drew ?_ | refine Same.drewN ?_ _ | refine Same.alloc ?_ _ | refine Same.setCell ?_ (fun hq => by simp only [From] at hq; first | omega | (simp at hq; done) | (simp at hq; omega)) _))).bz); (case g4 => exact ((Hs2.out.bbelow Hbel.out).bsame (by repeat' (first | exact Same.refl _ _ | assumption | refine Same.drew ?_ | refine Same.drewN ?_ _ | refine Same.alloc ?_ _ | refine Same.setCell ?_ (fun hq => by simp only [From] at hq; first | omega | (simp at hq; done) | (simp at hq; omega)) _))).bz); rw [Hp.out]; rintro e w1 ⟨rfl, hbw1⟩; have p0 := (hbw1.cell (p := ⟨gb, 0, none⟩) (by simp; omega)).trans o0; have p1 := (hbw1.cell (p := ⟨gb, 1, none⟩) (by simp; omega)).trans o1; have p2 := (hbw1.cell (p := ⟨gb, 2, none⟩) (by simp; omega)).trans o2; have p3 := (hbw1.cell (p := ⟨gb, 3, none⟩) (by simp; omega)).trans o3; have p4 := (hbw1.cell (p := ⟨g, off + k * 4, none⟩) (by simp; omega)).trans hc1; have p5 := (hbw1.cell (p := ⟨g, off + k * 4 + 1, none⟩) (by simp; omega)).trans hc2; have p6 := (hbw1.cell (p := ⟨g, off + k * 4 + 2, none⟩) (by simp; omega)).trans hc3; have p7 := (hbw1.cell (p := ⟨g, off + k * 4 + 3, none⟩) (by simp; omega)).trans hc4))
          have Hown1 := Lib.hid (Hown.out.below wrR_stays (show Below wr.heap.size wr w1 from (Below.refl _ _).drew.next hbw1 (by simp)))
          have Hb1 := Lib.hid (Hbel.out.trans ((show Below wr.heap.size wr w1 from (Below.refl _ _).drew.next hbw1 (by simp)).mono hbz))
          have hbz1 := Hb1.out.size
          go_upto_region 9 with (at_builtin; refine wpl_snoc wrR_stays (S := fun b => m ≤ b ∧ b < wg.heap.size) _ rfl _ _ _ rfl wg.heap.size 40 i0 _ 4 80 Tryz.underlying24 hi0 hz0 hz1 hz2 rfl (by decide) _ (acc) rfl ?hown _ _ [.slice A1 x.name.length a1, .slice B1 x.key.length b1, .bool x.flag, .slice C1 x.value.length c1] rfl rfl (new_src _ _ [.slice A1 x.name.length a1, .slice B1 x.key.length b1, .bool x.flag, .slice C1 x.value.length c1] _ (by simp)) (by simp [Value.oneCell']) ?hm ?hby ?hba x ?hd ?_; (case hown => exact Own.below wrR_stays Hown1.out ((Below.refl _ _).alloc (Nat.le_refl _) _)); (case hm => exact HB1.out.1); (case hby => exact HB1.out.2); (case hba => (simp; omega)); (case hd => (refine wr_old H1.out H2.out H3.out g1 g2 g3 ?_ Hlow.out; exact Hb1.out.alloc hbz1 _)); intro v1 w2 hownw2 hbw2)
          have Hb2 := Lib.hid ((Hb1.out.alloc hbz1 _).trans hbw2)
          have hbz2 := Hb2.out.size
          obtain ⟨hc1, hc2, hc3, hc4⟩ := Hc.out _ Hb2.out
          have hgw2 : g < w2.heap.size := by omega
          go_wp2_with (at_builtin; refine wpl_snoc wrR_stays (S := fun b => m ≤ b ∧ b < wg.heap.size) _ rfl _ _ _ rfl wg.heap.size 40 i0 _ 4 80 Tryz.underlying24 hi0 hz0 hz1 hz2 rfl (by decide) _ (acc ++ [x]) rfl ?hown _ _ [.slice A2 y.name.length a2, .slice B2 y.key.length b2, .bool y.flag, .slice C2 y.value.length c2] rfl rfl (new_src _ _ [.slice A2 y.name.length a2, .slice B2 y.key.length b2, .bool y.flag, .slice C2 y.value.length c2] _ (by simp)) (by simp [Value.oneCell']) ?hm ?hby ?hba y ?hd ?_; (case hown => exact Own.below wrR_stays hownw2 ((Below.refl _ _).alloc (Nat.le_refl _) _)); (case hm => exact HB2.out.1); (case hby => exact HB2.out.2); (case hba => exact (Hb2.out.alloc hbz2 _).size); (case hd => (refine wr_old Hs1.out Hs2.out Hs3.out hb1 hb2 hb3 ?_ hownw2.low; exact Hb2.out.alloc hbz2 _)); intro v2 w3 hownw3 hbw3)
          go_roundw
          case rel => exact ⟨k + 1, acc ++ [x] ++ [y], true, by omega, rfl, by go_num, Hn.out, hownw3, ((Hb2.out.alloc hbz2 _).trans hbw3)⟩
          case measure => simp [intOf]; omega
        · have Hn := Lib.hid (insUp_past hlt Hup.out hp)
          have Hp := Lib.hid hp
          generalize l[k] = y at *
          clear hac hp
          go_wp2_with fail
          go_region_held3 (fun w' => w'.cell? ⟨gb, 0, none⟩ = some (.slice A1 x.name.length a1) ∧ w'.cell? ⟨gb, 1, none⟩ = some (.slice B1 x.key.length b1) ∧ w'.cell? ⟨gb, 2, none⟩ = some (.bool x.flag) ∧ w'.cell? ⟨gb, 3, none⟩ = some (.slice C1 x.value.length c1) ∧ w'.cell? ⟨g, off + k * 4, none⟩ = some (.slice A2 y.name.length a2) ∧ w'.cell? ⟨g, off + k * 4 + 1, none⟩ = some (.slice B2 y.key.length b2) ∧ w'.cell? ⟨g, off + k * 4 + 2, none⟩ = some (.bool y.flag) ∧ w'.cell? ⟨g, off + k * 4 + 3, none⟩ = some (.slice C2 y.value.length c2))
            (first
              | (with_reducible exact ⟨p0, p1, p2, p3, p4, p5, p6, p7⟩)
              | go_keep)
            ((go_at_call 36; (with_reducible refine (placedBefore_ok _ A1 B1 C1 A2 B2 C2 x y a1 b1 c1 a2 b2 c2 ?g1 ?g2 ?g3 ?g4).mono ?_); (case g1 => exact ((H1.out.bbelow Hbel.out).bsame (by repeat' (first | exact Same.refl _ _ | assumption | refine Same.drew ?_ | refine Same.drewN ?_ _ | refine Same.alloc ?_ _ | refine Same.setCell ?_ (fun hq => by simp only [From] at hq; first | omega | (simp at hq; done) | (simp at hq; omega)) _))).bz); (case g2 => exact ((H2.out.bbelow Hbel.out).bsame (by repeat' (first | exact Same.refl _ _ | assumption | refine Same.drew ?_ | refine Same.drewN ?_ _ | refine Same.alloc ?_ _ | refine Same.setCell ?_ (fun hq => by simp only [From] at hq; first | omega | (simp at hq; done) | (simp at hq; omega)) _))).bz); (case g3 => exact ((Hs1.out.bbelow Hbel.out).bsame (by repeat' (first | exact Same.refl _ _ | assumption | refine Same.drew ?_ | refine Same.drewN ?_ _ | refine Same.alloc ?_ _ | refine Same.setCell ?_ (fun hq => by simp only [From] at hq; first | omega | (simp at hq; done) | (simp at hq; omega)) _))).bz); (case g4 => exact ((Hs2.out.bbelow Hbel.out).bsame (by repeat' (first | exact Same.refl _ _ | assumption | refine Same.drew ?_ | refine Same.drewN ?_ _ | refine Same.alloc ?_ _ | refine Same.setCell ?_ (fun hq => by simp only [From] at hq; first | omega | (simp at hq; done) | (simp at hq; omega)) _))).bz); rw [Hp.out]; rintro e w1 ⟨rfl, hbw1⟩; have p0 := (hbw1.cell (p := ⟨gb, 0, none⟩) (by simp; omega)).trans o0; have p1 := (hbw1.cell (p := ⟨gb, 1, none⟩) (by simp; omega)).trans o1; have p2 := (hbw1.cell (p := ⟨gb, 2, none⟩) (by simp; omega)).trans o2; have p3 := (hbw1.cell (p := ⟨gb, 3, none⟩) (by simp; omega)).trans o3; have p4 := (hbw1.cell (p := ⟨g, off + k * 4, none⟩) (by simp; omega)).trans hc1; have p5 := (hbw1.cell (p := ⟨g, off + k * 4 + 1, none⟩) (by simp; omega)).trans hc2; have p6 := (hbw1.cell (p := ⟨g, off + k * 4 + 2, none⟩) (by simp; omega)).trans hc3; have p7 := (hbw1.cell (p := ⟨g, off + k * 4 + 3, none⟩) (by simp; omega)).trans hc4))
          have Hown1 := Lib.hid (Hown.out.below wrR_stays (show Below wr.heap.size wr w1 from (Below.refl _ _).drew.next hbw1 (by simp)))
          have Hb1 := Lib.hid (Hbel.out.trans ((show Below wr.heap.size wr w1 from (Below.refl _ _).drew.next hbw1 (by simp)).mono hbz))
          have hbz1 := Hb1.out.size
          go_wp2_with (at_builtin; refine wpl_snoc wrR_stays (S := fun b => m ≤ b ∧ b < wg.heap.size) _ rfl _ _ _ rfl wg.heap.size 40 i0 _ 4 80 Tryz.underlying24 hi0 hz0 hz1 hz2 rfl (by decide) _ (acc) rfl ?hown _ _ [.slice A2 y.name.length a2, .slice B2 y.key.length b2, .bool y.flag, .slice C2 y.value.length c2] rfl rfl (new_src _ _ [.slice A2 y.name.length a2, .slice B2 y.key.length b2, .bool y.flag, .slice C2 y.value.length c2] _ (by simp)) (by simp [Value.oneCell']) ?hm ?hby ?hba y ?hd ?_; (case hown => exact Own.below wrR_stays Hown1.out ((Below.refl _ _).alloc (Nat.le_refl _) _)); (case hm => exact HB1.out.1); (case hby => exact HB1.out.2); (case hba => (simp; omega)); (case hd => (refine wr_old Hs1.out Hs2.out Hs3.out hb1 hb2 hb3 ?_ Hlow.out; exact Hb1.out.alloc hbz1 _)); intro v1 w2 hownw2 hbw2)
          go_roundw
          case rel => exact ⟨k + 1, acc ++ [y], false, by omega, rfl, by go_num, Hn.out, hownw2, ((Hb1.out.alloc hbz1 _).trans hbw2)⟩
          case measure => simp [intOf]; omega
    · obtain rfl : k = l.length := by omega
      have Hend := Lib.hid (insUp_end x l)
      rw [Hup.out] at Hend
      obtain ⟨o0, o1, o2, o3, _⟩ := box4 hbox
      have hgr : gb < wr.heap.size := by omega
      clear hbox
      cases dn with
      | true =>
        go_wp2
        go_ret
        rw [← Hend.out]
        obtain ⟨O, co, rfl, hs⟩ := own_from_m Hown.out hmg
        exact ⟨O, co, rfl, hs, Hwg.out.trans (Hbel.out.mono (by have := Hwg.out.size; omega))⟩
      | false =>
        have hac' : acc.length ≤ l.length := hac
        have HB1 := Lib.hid (show acc.length + 1 ≤ maxLen ∧ (acc.length + 1) * 80 ≤ 140737488355328 from ⟨by simp only [maxLen]; omega, by omega⟩)
        go_wp2_with (at_builtin; refine wpl_snoc wrR_stays (S := fun b => m ≤ b ∧ b < wg.heap.size) _ rfl _ _ _ rfl wg.heap.size 40 i0 _ 4 80 Tryz.underlying24 hi0 hz0 hz1 hz2 rfl (by decide) _ (acc) rfl ?hown _ _ [.slice A1 x.name.length a1, .slice B1 x.key.length b1, .bool x.flag, .slice C1 x.value.length c1] rfl rfl (new_src _ _ [.slice A1 x.name.length a1, .slice B1 x.key.length b1, .bool x.flag, .slice C1 x.value.length c1] _ (by simp)) (by simp [Value.oneCell']) ?hm ?hby ?hba x ?hd ?_; (case hown => exact Own.below wrR_stays Hown.out ((Below.refl _ _).alloc (Nat.le_refl _) _)); (case hm => exact HB1.out.1); (case hby => exact HB1.out.2); (case hba => (simp; omega)); (case hd => (refine wr_old H1.out H2.out H3.out g1 g2 g3 ?_ Hlow.out; repeat' (first | exact Below.refl _ _ | assumption | refine Below.drew ?_ | refine below_drewN ?_ _ | refine Below.setCell ?_ (by first | (simp; done) | omega | (simp; omega)) _ | refine Below.alloc ?_ (by first | exact Nat.le_refl _ | omega | (simp; done) | (simp; omega)) _))); intro v1 w2 hownw2 hbw2)
        go_ret
        rw [← Hend.out]
        obtain ⟨O, co, rfl, hs⟩ := own_from_m hownw2 hmg
        exact ⟨O, co, rfl, hs, Hwg.out.trans ((Hbel.out.alloc hbz _).trans hbw2 |>.mono (by have := Hwg.out.size; omega))⟩
end Go.Proofs.YthohkgggodhbcaaGreat
