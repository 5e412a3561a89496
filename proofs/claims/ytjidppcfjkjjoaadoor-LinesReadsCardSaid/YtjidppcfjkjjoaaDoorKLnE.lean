/- LnE: Walk: the reference's lineAct: what it makes of a line. Walk: the reference's ActsRead. The conditions of each are in its words. -/
import Derived.BigQuiet
import Derived.Deep.CutRange
import Derived.Test.YtjidppcfjkjjoaaDoorKLnD
namespace Go.Proofs.YtjidppcfjkjjoaaDoor
open Go.RowKit
set_option linter.unusedVariables false
set_option linter.unusedSimpArgs false

/-- A text in a row of texts. -/
theorem strs_at {S : Nat → Prop} {w : World} {A : Option Addr} {ws : List (List UInt8)} (h : SL 1 StrR S w A ws) (hne : ws ≠ []) :
    ∃ g off, A = some ⟨g, off, none⟩ ∧ S g ∧ g < w.heap.size ∧ ∀ k (hk : k < ws.length), w.cell? ⟨g, off + k, none⟩ = some (.string ⟨(ws[k]).toArray⟩) := by
  have hp : 0 < ws.length := List.length_pos_iff.2 hne
  obtain ⟨g, off, cs, e, h0, hlt, h1, h2, h3⟩ := h.at hp
  refine ⟨g, off, e, h0, hlt, fun k hk => ?_⟩
  obtain ⟨g', off', cs', e', _, _, h1', h2', b, hb, hb2⟩ := h.at hk
  rw [e] at e'
  cases e'
  subst hb
  have := h2' 0 (by simp)
  simp only [Nat.mul_one, Nat.add_zero] at this
  rw [this, ← hb2]
  rfl
theorem refC_none {s x : List UInt8} {r : List (List UInt8)} (h : cutW 32 s = x :: r) (h1 : r = [] → x ≠ [115, 121, 110, 99] ∧ x ≠ [115, 116, 97, 114, 116]) (h2 : r.length = 1 → x ≠ [99, 114, 97, 115, 104]) (h3 : ∀ v h, r = [v, h] → x = [97, 115, 107] → h.length % 2 ≠ 0) : refC s = noLn := by
  unfold refC
  rw [h]
  match r, h1, h2, h3 with
  | [], h1, _, _ => simp [h1 rfl]
  | [v], _, h2, _ => simp [h2 rfl]
  | [v, u], _, _, h3 =>
    by_cases hx : x = [97, 115, 107]
    · simp [hx, h3 v u rfl hx]
    · simp [hx]
  | _ :: _ :: _ :: _, _, _, _ => rfl
def askOf (n : Int) : Option (List UInt8) → Le
  | none => noLn
  | some d => ⟨1, n, 0, d⟩
theorem refS_none {s : List UInt8} (h : refC s = noLn) : refS s = noLn := by
  unfold refS
  rw [h]
  rfl
theorem refS_bad {s : List UInt8} {a : Le} (h : refC s = a) (hf : lnFault a ≠ 0) : refS s = noLn := by
  unfold refS
  rw [h, if_pos (.inr hf)]
theorem refS_good {s : List UInt8} {a : Le} (h : refC s = a) (h0 : a.kind ≠ 0) (hf : lnFault a = 0) : refS s = a := by
  unfold refS
  rw [h, if_neg (by intro h9; rcases h9 with h9 | h9; exact h0 h9; exact h9 hf)]
theorem whole_at (w : World) (v : List UInt8) (hv : v.length ≤ 2000000) : Calls Tryd.prog 33 #[.string ⟨v.toArray⟩] w (RetV w (.int .i64 (wholeS v))) := by
  have h := whole_ok w ⟨v.toArray⟩ (by rw [size_mk]; simpa using hv)
  simpa using h
set_option maxRecDepth 100000 in
set_option maxHeartbeats 2000000 in
theorem lineAct_ok (w : World) (S : ByteArray) (hs : S.size ≤ 2000000) :
    Calls Tryd.prog 21 #[.string S] w (RetLe w (refS S.data.toList)) := by
  have hx0 := box_new w #[.int .i64 0, .int .i64 0, .int .i64 0, .slice none 0 0] 34
  have hb0 := (Below.refl w.heap.size w).alloc (Nat.le_refl _) (.cells #[.int .i64 0, .int .i64 0, .int .i64 0, .slice none 0 0] 34)
  have hsz0 : (w.alloc (.cells #[.int .i64 0, .int .i64 0, .int .i64 0, .slice none 0 0] 34)).heap.size = w.heap.size + 1 := by simp
  obtain ⟨ws, hws⟩ : ∃ ws, ws = cutW 32 S.data.toList := ⟨_, rfl⟩
  have hne : ws ≠ [] := by rw [hws]; exact cutW_ne _ _
  have hS := Lib.size_eq S
  have Hlen2 := Lib.hid (show ∀ x ∈ ws, x.length ≤ 2000000 from fun x hx => Nat.le_trans (cutW_le (c := 32) (hws ▸ hx)) (by omega))
  have Hwn := Lib.hid (show ws.length ≤ 2000001 by rw [hws]; have := cutW_num 32 S.data.toList; omega)
  obtain ⟨R, hR⟩ : ∃ R, R = refS S.data.toList := ⟨_, rfl⟩
  have Hws := Lib.hid hws
  have HR := Lib.hid hR
  rw [← hR]
  clear hws hS hR
  go_enter Tryd.func21, Tryd.ntmps21
  go_upto_region 1 with fail
  obtain ⟨w0, hw0e⟩ : ∃ w0, w0 = w.alloc (.cells #[.int .i64 0, .int .i64 0, .int .i64 0, .slice none 0 0] 34) := ⟨_, rfl⟩
  rw [← hw0e] at hx0 hb0 hsz0 ⊢
  obtain ⟨g2, hg2e⟩ : ∃ g2, g2 = w.heap.size := ⟨_, rfl⟩
  have hwg : w.heap.size ≤ g2 := by omega
  have hgw : g2 < w0.heap.size := by omega
  rw [← hg2e] at hx0 ⊢
  have Hx0 := Lib.hid hx0
  have Hb0 := Lib.hid hb0
  clear hw0e hg2e hx0 hb0 hsz0
  go_upto_region 2 with (go_at_call 32; (refine (wordsOf_ok _ S hs).mono ?_); rintro e w1 ⟨A, c, rfl, hsl, hbw⟩; rw [← Hws.out] at hsl ⊢)
  obtain ⟨g3, off, rfl, hg3f, hg3l, hcs⟩ := strs_at hsl hne
  have hg3 : w0.heap.size ≤ g3 := hg3f
  have hx2 := box_new w1 #[.int .i64 0, .int .i64 0, .int .i64 0, .slice none 0 0] 34
  have hb2 := (Below.refl w1.heap.size w1).alloc (Nat.le_refl _) (.cells #[.int .i64 0, .int .i64 0, .int .i64 0, .slice none 0 0] 34)
  have hsz2 : (w1.alloc (.cells #[.int .i64 0, .int .i64 0, .int .i64 0, .slice none 0 0] 34)).heap.size = w1.heap.size + 1 := by simp
  have hz01 := hbw.size
  have Hb1 := Lib.hid (Hb0.out.trans (hbw.mono (by have := Hb0.out.size; omega)))
  have Hx01 := Lib.hid ((hbw.block g2 hgw).trans Hx0.out)
  have Hcs := Lib.hid hcs
  clear hsl hbw hg3f hcs
  go_upto_region 3 with fail
  obtain ⟨w2, hw2e⟩ : ∃ w2, w2 = w1.alloc (.cells #[.int .i64 0, .int .i64 0, .int .i64 0, .slice none 0 0] 34) := ⟨_, rfl⟩
  rw [← hw2e] at hx2 hb2 hsz2 ⊢
  obtain ⟨g4, hg4e⟩ : ∃ g4, g4 = w1.heap.size := ⟨_, rfl⟩
  rw [← hg4e] at hx2 hsz2 hb2 ⊢
  have hg34 : g3 < g4 := by omega
  have hg24 : g2 < g4 := by omega
  have hwg4 : w.heap.size ≤ g4 := by omega
  have hg4l : g4 < w2.heap.size := by omega
  have hg2l : g2 < w2.heap.size := by omega
  have hg3l2 : g3 < w2.heap.size := by omega
  have Hx2 := Lib.hid hx2
  have Hb2 := Lib.hid (Hb1.out.trans (hb2.mono (by omega)))
  have Hx02 := Lib.hid ((hb2.block g2 (by omega)).trans Hx01.out)
  have Hcs2 := Lib.hid (show ∀ k (hk : k < ws.length), w2.cell? ⟨g3, off + k, none⟩ = some (.string ⟨(ws[k]).toArray⟩) from fun k hk => (World.cell?_of_block (w := w1) (hb2.block g3 hg34)).trans (Hcs.out k hk))
  clear hw2e hg4e hx2 hb2 hsz2 hz01 hg3 hg3l
  obtain ⟨x, r, hwr⟩ : ∃ x r, ws = x :: r := by
    cases ws with
    | nil => exact absurd rfl hne
    | cons x r => exact ⟨x, r, rfl⟩
  have hlen0 : 0 < ws.length := by rw [hwr]; simp
  have hlen0i : (0 : Int) < (ws.length : Int) := by omega
  have hq0 : w2.cell? ⟨g3, off, none⟩ = some (.string ⟨x.toArray⟩) := by
    have := Hcs2.out 0 hlen0
    rw [Nat.add_zero] at this
    rw [this]
    simp [hwr]
  obtain ⟨c0, c1, c2, c3, f0, f1, f2, f3⟩ := box4L Hx2.out
  obtain ⟨d0, d1, d2, d3, e0, e1, e2, e3⟩ := box4L Hx02.out
  have hlr : ws.length = r.length + 1 := by rw [hwr]; rfl
  have Hwr := Lib.hid hwr
  clear hwr
  by_cases ho : x ≠ [115, 121, 110, 99] ∧ x ≠ [115, 116, 97, 114, 116] ∧ x ≠ [99, 114, 97, 115, 104] ∧ x ≠ [97, 115, 107]
  · have b1 : (x == [115, 121, 110, 99]) = false := by simpa using ho.1
    have b2 : (x == [115, 116, 97, 114, 116]) = false := by simpa using ho.2.1
    have b3 : (x == [99, 114, 97, 115, 104]) = false := by simpa using ho.2.2.1
    have b4 : (x == [97, 115, 107]) = false := by simpa using ho.2.2.2
    have HRn := Lib.hid (show R = noLn from by rw [HR.out]; exact refS_none (refC_none (Hws.out.symm.trans Hwr.out) (fun _ => ⟨ho.1, ho.2.1⟩) (fun _ => ho.2.2.1) (fun _ _ _ h => absurd h ho.2.2.2)))
    clear ho
    go_wp2
    refine bodyPost_ret (v := .agg #[.int .i64 0, .int .i64 0, .int .i64 0, .slice none 0 0]) (by simp [results, Tryd.results21, go_sem, d0, d1, d2, d3, hg2l]) rfl ?_
    rw [HRn.out]
    exact ⟨none, 0, rfl, SL.nil, ((((Hb2.out).setCell (p := ⟨g2, 0, none⟩) hwg _).setCell (p := ⟨g2, 1, none⟩) hwg _).setCell (p := ⟨g2, 2, none⟩) hwg _).setCell (p := ⟨g2, 3, none⟩) hwg _⟩
  · have hx : x = [115, 121, 110, 99] ∨ x = [115, 116, 97, 114, 116] ∨ x = [99, 114, 97, 115, 104] ∨ x = [97, 115, 107] := by
      rcases Decidable.em (x = [115, 121, 110, 99]) with h | h1
      · exact .inl h
      rcases Decidable.em (x = [115, 116, 97, 114, 116]) with h | h2
      · exact .inr (.inl h)
      rcases Decidable.em (x = [99, 114, 97, 115, 104]) with h | h3
      · exact .inr (.inr (.inl h))
      rcases Decidable.em (x = [97, 115, 107]) with h | h4
      · exact .inr (.inr (.inr h))
      exact absurd ⟨h1, h2, h3, h4⟩ ho
    clear ho
    rcases hx with hx | hx | hx | hx
    · have b1 : (x == [115, 121, 110, 99]) = true := by rw [hx]; rfl
      have b2 : (x == [115, 116, 97, 114, 116]) = false := by rw [hx]; rfl
      have b3 : (x == [99, 114, 97, 115, 104]) = false := by rw [hx]; rfl
      have b4 : (x == [97, 115, 107]) = false := by rw [hx]; rfl
      by_cases hr : r = []
      · have bl1 : ((ws.length : Int) == 1) = true := by rw [beq_iff_eq]; rw [hlr, hr]; rfl
        have HRn := Lib.hid (show R = ⟨2, 0, 0, []⟩ from by rw [HR.out]; exact refS_good (by unfold refC; rw [Hws.out.symm.trans Hwr.out, hr, hx]; rfl) (by decide) (by decide))
        clear hx hr
        have hwx := heap_setCell_same _ _ 0 _ _ (.int .i64 2) Hx2.out
        have hwr2 := (heap_setCell_other w2 ⟨g4, 0, none⟩ _ (.int .i64 2) (show g2 ≠ g4 by omega)).trans Hx02.out
        have hwb := Hb2.out.setCell (p := ⟨g4, 0, none⟩) hwg4 (.int .i64 2)
        have hwz : (w2.setCell ⟨g4, 0, none⟩ (.int .i64 2)).heap.size = w2.heap.size := by simp [World.setCell]
        go_upto_region 21 with fail
        obtain ⟨wk, hwk⟩ : ∃ wk, wk = w2.setCell ⟨g4, 0, none⟩ (.int .i64 2) := ⟨_, rfl⟩
        rw [← hwk] at hwx hwr2 hwb hwz ⊢
        have h4k : g4 < wk.heap.size := by omega
        have h2k : g2 < wk.heap.size := by omega
        have Hbk := Lib.hid (show wk.heap[g4]? = some (.cells #[.int .i64 2, .int .i64 0, .int .i64 0, .slice none 0 0] 34 (0, 0)) from hwx)
        have Hrk := Lib.hid hwr2
        have Hwk := Lib.hid hwb
        have HDk := Lib.hid (SL.nil : Bs (From (g2 + 1)) wk none [])
        clear hwk hwx hwr2 hwb hwz c0 c1 c2 c3 f0 f1 f2 f3 d0 d1 d2 d3 e0 e1 e2 e3
        obtain ⟨c0, c1, c2, c3, f0, f1, f2, f3⟩ := box4L Hbk.out
        obtain ⟨d0, d1, d2, d3, e0, e1, e2, e3⟩ := box4L Hrk.out
        go_wp2_with (go_at_call 16; (refine (actFault_ok _ 2 0 0 none 0 0).mono ?_); rw [show actFaultS 2 0 0 0 = 0 from by decide]; rintro e w9 ⟨rfl, hv9⟩; have hz9 := hv9.size; have hbx9 := (hv9.block g4 h4k).trans Hbk.out; have hbr9 := (hv9.block g2 h2k).trans Hrk.out; have Hw9 := Lib.hid (Hwk.out.trans (hv9.mono Hwk.out.size)); have hg2l9 : g2 < w9.heap.size := (by omega); have Hv9 := Lib.hid hv9; clear c0 c1 c2 c3 f0 f1 f2 f3 d0 d1 d2 d3 e0 e1 e2 e3; obtain ⟨c0, c1, c2, c3, f0, f1, f2, f3⟩ := box4L hbx9; obtain ⟨d0, d1, d2, d3, e0, e1, e2, e3⟩ := box4L hbr9; clear hbx9 hbr9 hv9)
        refine bodyPost_ret (v := .agg #[.int .i64 (2), .int .i64 (0), .int .i64 (0), .slice none 0 0]) (by simp [results, Tryd.results21, go_sem, d0, d1, d2, d3, hg2l9]) rfl ?_
        rw [HRn.out]
        exact ⟨none, 0, rfl, (((HDk.out.bbelow Hv9.out)).bsame (((((Same.refl _ _).setCell (p := ⟨g2, 0, none⟩) (show ¬ From (g2 + 1) g2 from fun h9 => Nat.not_succ_le_self _ h9) _).setCell (p := ⟨g2, 1, none⟩) (show ¬ From (g2 + 1) g2 from fun h9 => Nat.not_succ_le_self _ h9) _).setCell (p := ⟨g2, 2, none⟩) (show ¬ From (g2 + 1) g2 from fun h9 => Nat.not_succ_le_self _ h9) _).setCell (p := ⟨g2, 3, none⟩) (show ¬ From (g2 + 1) g2 from fun h9 => Nat.not_succ_le_self _ h9) _)).blo (by omega), ((((Hw9.out).setCell (p := ⟨g2, 0, none⟩) hwg _).setCell (p := ⟨g2, 1, none⟩) hwg _).setCell (p := ⟨g2, 2, none⟩) hwg _).setCell (p := ⟨g2, 3, none⟩) hwg _⟩
      · have bl1 : ((ws.length : Int) == 1) = false := by rw [beq_eq_false_iff_ne]; (have := List.length_pos_iff.2 hr; omega)
        have Hr := Lib.hid hr
        have Hx := Lib.hid hx
        clear hx hr
        have HRn := Lib.hid (show R = noLn from by rw [HR.out]; exact refS_none (refC_none (Hws.out.symm.trans Hwr.out) (fun h => absurd h Hr.out) (fun _ => by rw [Hx.out]; decide) (fun _ _ _ h => by rw [Hx.out] at h; exact absurd h (by decide))))
        go_wp2
        refine bodyPost_ret (v := .agg #[.int .i64 0, .int .i64 0, .int .i64 0, .slice none 0 0]) (by simp [results, Tryd.results21, go_sem, d0, d1, d2, d3, hg2l]) rfl ?_
        rw [HRn.out]
        exact ⟨none, 0, rfl, SL.nil, ((((Hb2.out).setCell (p := ⟨g2, 0, none⟩) hwg _).setCell (p := ⟨g2, 1, none⟩) hwg _).setCell (p := ⟨g2, 2, none⟩) hwg _).setCell (p := ⟨g2, 3, none⟩) hwg _⟩
    · have b1 : (x == [115, 121, 110, 99]) = false := by rw [hx]; rfl
      have b2 : (x == [115, 116, 97, 114, 116]) = true := by rw [hx]; rfl
      have b3 : (x == [99, 114, 97, 115, 104]) = false := by rw [hx]; rfl
      have b4 : (x == [97, 115, 107]) = false := by rw [hx]; rfl
      by_cases hr : r = []
      · have bl1 : ((ws.length : Int) == 1) = true := by rw [beq_iff_eq]; rw [hlr, hr]; rfl
        have HRn := Lib.hid (show R = ⟨4, 0, 0, []⟩ from by rw [HR.out]; exact refS_good (by unfold refC; rw [Hws.out.symm.trans Hwr.out, hr, hx]; rfl) (by decide) (by decide))
        clear hx hr
        have hwx := heap_setCell_same _ _ 0 _ _ (.int .i64 4) Hx2.out
        have hwr2 := (heap_setCell_other w2 ⟨g4, 0, none⟩ _ (.int .i64 4) (show g2 ≠ g4 by omega)).trans Hx02.out
        have hwb := Hb2.out.setCell (p := ⟨g4, 0, none⟩) hwg4 (.int .i64 4)
        have hwz : (w2.setCell ⟨g4, 0, none⟩ (.int .i64 4)).heap.size = w2.heap.size := by simp [World.setCell]
        go_upto_region 21 with fail
        obtain ⟨wk, hwk⟩ : ∃ wk, wk = w2.setCell ⟨g4, 0, none⟩ (.int .i64 4) := ⟨_, rfl⟩
        rw [← hwk] at hwx hwr2 hwb hwz ⊢
        have h4k : g4 < wk.heap.size := by omega
        have h2k : g2 < wk.heap.size := by omega
        have Hbk := Lib.hid (show wk.heap[g4]? = some (.cells #[.int .i64 4, .int .i64 0, .int .i64 0, .slice none 0 0] 34 (0, 0)) from hwx)
        have Hrk := Lib.hid hwr2
        have Hwk := Lib.hid hwb
        have HDk := Lib.hid (SL.nil : Bs (From (g2 + 1)) wk none [])
        clear hwk hwx hwr2 hwb hwz c0 c1 c2 c3 f0 f1 f2 f3 d0 d1 d2 d3 e0 e1 e2 e3
        obtain ⟨c0, c1, c2, c3, f0, f1, f2, f3⟩ := box4L Hbk.out
        obtain ⟨d0, d1, d2, d3, e0, e1, e2, e3⟩ := box4L Hrk.out
        go_wp2_with (go_at_call 16; (refine (actFault_ok _ 4 0 0 none 0 0).mono ?_); rw [show actFaultS 4 0 0 0 = 0 from by decide]; rintro e w9 ⟨rfl, hv9⟩; have hz9 := hv9.size; have hbx9 := (hv9.block g4 h4k).trans Hbk.out; have hbr9 := (hv9.block g2 h2k).trans Hrk.out; have Hw9 := Lib.hid (Hwk.out.trans (hv9.mono Hwk.out.size)); have hg2l9 : g2 < w9.heap.size := (by omega); have Hv9 := Lib.hid hv9; clear c0 c1 c2 c3 f0 f1 f2 f3 d0 d1 d2 d3 e0 e1 e2 e3; obtain ⟨c0, c1, c2, c3, f0, f1, f2, f3⟩ := box4L hbx9; obtain ⟨d0, d1, d2, d3, e0, e1, e2, e3⟩ := box4L hbr9; clear hbx9 hbr9 hv9)
        refine bodyPost_ret (v := .agg #[.int .i64 (4), .int .i64 (0), .int .i64 (0), .slice none 0 0]) (by simp [results, Tryd.results21, go_sem, d0, d1, d2, d3, hg2l9]) rfl ?_
        rw [HRn.out]
        exact ⟨none, 0, rfl, (((HDk.out.bbelow Hv9.out)).bsame (((((Same.refl _ _).setCell (p := ⟨g2, 0, none⟩) (show ¬ From (g2 + 1) g2 from fun h9 => Nat.not_succ_le_self _ h9) _).setCell (p := ⟨g2, 1, none⟩) (show ¬ From (g2 + 1) g2 from fun h9 => Nat.not_succ_le_self _ h9) _).setCell (p := ⟨g2, 2, none⟩) (show ¬ From (g2 + 1) g2 from fun h9 => Nat.not_succ_le_self _ h9) _).setCell (p := ⟨g2, 3, none⟩) (show ¬ From (g2 + 1) g2 from fun h9 => Nat.not_succ_le_self _ h9) _)).blo (by omega), ((((Hw9.out).setCell (p := ⟨g2, 0, none⟩) hwg _).setCell (p := ⟨g2, 1, none⟩) hwg _).setCell (p := ⟨g2, 2, none⟩) hwg _).setCell (p := ⟨g2, 3, none⟩) hwg _⟩
      · have bl1 : ((ws.length : Int) == 1) = false := by rw [beq_eq_false_iff_ne]; (have := List.length_pos_iff.2 hr; omega)
        have Hr := Lib.hid hr
        have Hx := Lib.hid hx
        clear hx hr
        have HRn := Lib.hid (show R = noLn from by rw [HR.out]; exact refS_none (refC_none (Hws.out.symm.trans Hwr.out) (fun h => absurd h Hr.out) (fun _ => by rw [Hx.out]; decide) (fun _ _ _ h => by rw [Hx.out] at h; exact absurd h (by decide))))
        go_wp2
        refine bodyPost_ret (v := .agg #[.int .i64 0, .int .i64 0, .int .i64 0, .slice none 0 0]) (by simp [results, Tryd.results21, go_sem, d0, d1, d2, d3, hg2l]) rfl ?_
        rw [HRn.out]
        exact ⟨none, 0, rfl, SL.nil, ((((Hb2.out).setCell (p := ⟨g2, 0, none⟩) hwg _).setCell (p := ⟨g2, 1, none⟩) hwg _).setCell (p := ⟨g2, 2, none⟩) hwg _).setCell (p := ⟨g2, 3, none⟩) hwg _⟩
    · have b1 : (x == [115, 121, 110, 99]) = false := by rw [hx]; rfl
      have b2 : (x == [115, 116, 97, 114, 116]) = false := by rw [hx]; rfl
      have b3 : (x == [99, 114, 97, 115, 104]) = true := by rw [hx]; rfl
      have b4 : (x == [97, 115, 107]) = false := by rw [hx]; rfl
      by_cases hr : ∃ v, r = [v]
      · obtain ⟨v, hr⟩ := hr
        have hq1 : w2.cell? ⟨g3, off + 1, none⟩ = some (.string ⟨v.toArray⟩) := by
          have := Hcs2.out 1 (by rw [hlr, hr]; simp)
          rw [this]
          simp [Hwr.out, hr]
        have hi1 : (1 : Int) < (ws.length : Int) := by rw [hlr, hr]; simp
        have Hvl := Lib.hid (Hlen2.out v (by rw [Hwr.out, hr]; simp))
        have bl2 : ((ws.length : Int) == 2) = true := by rw [beq_iff_eq]; rw [hlr, hr]; rfl
        have HC := Lib.hid (show refC S.data.toList = ⟨3, 0, wholeS v, []⟩ from by unfold refC; rw [Hws.out.symm.trans Hwr.out, hr, hx]; rfl)
        clear hx hr
        go_upto_region 10 with (go_at_call 33; (refine (whole_at _ v Hvl.out).mono ?_); rintro e w5 ⟨rfl, hv5⟩; have hz5 := hv5.size; simp only [World.size_setCell] at hz5; have hbx5 := (hv5.block g4 (by simp only [World.size_setCell]; omega)).trans (heap_setCell_same _ _ 0 _ _ (.int .i64 3) Hx2.out); have hbr5 := (hv5.block g2 (by simp only [World.size_setCell]; omega)).trans ((heap_setCell_other w2 ⟨g4, 0, none⟩ _ (.int .i64 3) (show g2 ≠ g4 by omega)).trans Hx02.out); have Hw5 := Lib.hid ((Hb2.out.setCell (p := ⟨g4, 0, none⟩) hwg4 (.int .i64 3)).trans (hv5.mono (by simp only [World.size_setCell]; omega))); have Hcs5 := Lib.hid (show ∀ k (hk : k < ws.length), w5.cell? ⟨g3, off + k, none⟩ = some (.string ⟨(ws[k]).toArray⟩) from fun k hk => (World.cell?_of_block (w := w2) ((hv5.block g3 (by simp only [World.size_setCell]; omega)).trans (heap_setCell_other w2 ⟨g4, 0, none⟩ _ (.int .i64 3) (show g3 ≠ g4 by omega)))).trans (Hcs2.out k hk)); clear c0 c1 c2 c3 f0 f1 f2 f3 d0 d1 d2 d3 e0 e1 e2 e3; obtain ⟨c0, c1, c2, c3, f0, f1, f2, f3⟩ := box4L hbx5; obtain ⟨d0, d1, d2, d3, e0, e1, e2, e3⟩ := box4L hbr5; have h4l5 : g4 < w5.heap.size := (by omega); have h2l5 : g2 < w5.heap.size := (by omega); have Hbx5 := Lib.hid hbx5; have Hbr5 := Lib.hid hbr5; clear hbx5 hbr5 hv5)
        have hq0' : w5.cell? ⟨g3, off, none⟩ = some (.string ⟨x.toArray⟩) := by
          have := Hcs5.out 0 hlen0
          rw [Nat.add_zero] at this
          rw [this]
          simp [Hwr.out]
        generalize wholeS v = n at *
        have hwx := heap_setCell_same _ _ 2 _ _ (.int .i64 n) Hbx5.out
        have hwr2 := (heap_setCell_other w5 ⟨g4, 2, none⟩ _ (.int .i64 n) (show g2 ≠ g4 by omega)).trans Hbr5.out
        have hwb := Hw5.out.setCell (p := ⟨g4, 2, none⟩) hwg4 (.int .i64 n)
        have hwz : (w5.setCell ⟨g4, 2, none⟩ (.int .i64 n)).heap.size = w5.heap.size := by simp [World.setCell]
        have hwc : ∀ k (hk : k < ws.length), (w5.setCell ⟨g4, 2, none⟩ (.int .i64 n)).cell? ⟨g3, off + k, none⟩ = some (.string ⟨(ws[k]).toArray⟩) := fun k hk => (World.cell?_of_block (w := w5) (heap_setCell_other w5 ⟨g4, 2, none⟩ _ (.int .i64 n) (show g3 ≠ g4 by omega))).trans (Hcs5.out k hk)
        obtain ⟨wk, hwk⟩ : ∃ wk, wk = w5.setCell ⟨g4, 2, none⟩ (.int .i64 n) := ⟨_, rfl⟩
        rw [← hwk] at hwx hwr2 hwb hwz hwc ⊢
        have h4k : g4 < wk.heap.size := by omega
        have h2k : g2 < wk.heap.size := by omega
        have Hbk := Lib.hid (show wk.heap[g4]? = some (.cells #[.int .i64 3, .int .i64 0, .int .i64 n, .slice none 0 0] 34 (0, 0)) from hwx)
        have Hrk := Lib.hid hwr2
        have Hwk := Lib.hid hwb
        have Hck := Lib.hid hwc
        clear hwk hwx hwr2 hwb hwz hwc c0 c1 c2 c3 f0 f1 f2 f3 d0 d1 d2 d3 e0 e1 e2 e3
        obtain ⟨c0, c1, c2, c3, f0, f1, f2, f3⟩ := box4L Hbk.out
        obtain ⟨d0, d1, d2, d3, e0, e1, e2, e3⟩ := box4L Hrk.out
        have hqk0 : wk.cell? ⟨g3, off, none⟩ = some (.string ⟨x.toArray⟩) := by
          have := Hck.out 0 hlen0
          rw [Nat.add_zero] at this
          rw [this]
          simp [Hwr.out]
        have HDk := Lib.hid (SL.nil : Bs (From (g2 + 1)) wk none [])
        have hg3k : g3 < wk.heap.size := by omega
        by_cases hf : lnFault ⟨3, 0, n, []⟩ = 0
        · have HRn := Lib.hid (show R = ⟨3, 0, n, []⟩ from by rw [HR.out]; exact refS_good HC.out (show (3 : Int) ≠ 0 by decide) hf)
          have Hf := Lib.hid hf
          clear hf
          go_wp2_with (go_at_call 16; (refine (actFault_ok _ 3 0 n none 0 0).mono ?_); rw [show actFaultS 3 0 n 0 = 0 from Hf.out]; rintro e w9 ⟨rfl, hv9⟩; have hz9 := hv9.size; have hbx9 := (hv9.block g4 h4k).trans Hbk.out; have hbr9 := (hv9.block g2 h2k).trans Hrk.out; have Hw9 := Lib.hid (Hwk.out.trans (hv9.mono Hwk.out.size)); have hg2l9 : g2 < w9.heap.size := (by omega); have Hv9 := Lib.hid hv9; clear c0 c1 c2 c3 f0 f1 f2 f3 d0 d1 d2 d3 e0 e1 e2 e3; obtain ⟨c0, c1, c2, c3, f0, f1, f2, f3⟩ := box4L hbx9; obtain ⟨d0, d1, d2, d3, e0, e1, e2, e3⟩ := box4L hbr9; clear hbx9 hbr9 hv9)
          refine bodyPost_ret (v := .agg #[.int .i64 (3), .int .i64 (0), .int .i64 (n), .slice none 0 0]) (by simp [results, Tryd.results21, go_sem, d0, d1, d2, d3, hg2l9]) rfl ?_
          rw [HRn.out]
          exact ⟨none, 0, rfl, (((HDk.out.bbelow Hv9.out)).bsame (((((Same.refl _ _).setCell (p := ⟨g2, 0, none⟩) (show ¬ From (g2 + 1) g2 from fun h9 => Nat.not_succ_le_self _ h9) _).setCell (p := ⟨g2, 1, none⟩) (show ¬ From (g2 + 1) g2 from fun h9 => Nat.not_succ_le_self _ h9) _).setCell (p := ⟨g2, 2, none⟩) (show ¬ From (g2 + 1) g2 from fun h9 => Nat.not_succ_le_self _ h9) _).setCell (p := ⟨g2, 3, none⟩) (show ¬ From (g2 + 1) g2 from fun h9 => Nat.not_succ_le_self _ h9) _)).blo (by omega), ((((Hw9.out).setCell (p := ⟨g2, 0, none⟩) hwg _).setCell (p := ⟨g2, 1, none⟩) hwg _).setCell (p := ⟨g2, 2, none⟩) hwg _).setCell (p := ⟨g2, 3, none⟩) hwg _⟩
        · have HRn := Lib.hid (show R = noLn from by rw [HR.out]; exact refS_bad HC.out hf)
          obtain ⟨F, hF⟩ : ∃ F, actFaultS 3 0 n 0 = F := ⟨_, rfl⟩
          have b9 : (F != 0) = true := by rw [← hF]; simpa [lnFault] using hf
          go_wp2_with (go_at_call 16; (refine (actFault_ok _ 3 0 n none 0 0).mono ?_); rw [show actFaultS 3 0 n 0 = F from hF]; rintro e w9 ⟨rfl, hv9⟩; have hz9 := hv9.size; have hbx9 := (hv9.block g4 h4k).trans Hbk.out; have hbr9 := (hv9.block g2 h2k).trans Hrk.out; have Hw9 := Lib.hid (Hwk.out.trans (hv9.mono Hwk.out.size)); have hg2l9 : g2 < w9.heap.size := (by omega); have Hv9 := Lib.hid hv9; clear c0 c1 c2 c3 f0 f1 f2 f3 d0 d1 d2 d3 e0 e1 e2 e3; obtain ⟨c0, c1, c2, c3, f0, f1, f2, f3⟩ := box4L hbx9; obtain ⟨d0, d1, d2, d3, e0, e1, e2, e3⟩ := box4L hbr9; clear hbx9 hbr9 hv9)
          refine bodyPost_ret (v := .agg #[.int .i64 0, .int .i64 0, .int .i64 0, .slice none 0 0]) (by simp [results, Tryd.results21, go_sem, d0, d1, d2, d3, hg2l9]) rfl ?_
          rw [HRn.out]
          exact ⟨none, 0, rfl, SL.nil, ((((Hw9.out).setCell (p := ⟨g2, 0, none⟩) hwg _).setCell (p := ⟨g2, 1, none⟩) hwg _).setCell (p := ⟨g2, 2, none⟩) hwg _).setCell (p := ⟨g2, 3, none⟩) hwg _⟩
      · have hrl : r.length ≠ 1 := fun h => by
          match r, h with
          | [v], _ => exact hr ⟨v, rfl⟩
        have bl2 : ((ws.length : Int) == 2) = false := by rw [beq_eq_false_iff_ne]; omega
        have Hr := Lib.hid hrl
        have Hx := Lib.hid hx
        clear hx hr hrl
        have HRn := Lib.hid (show R = noLn from by rw [HR.out]; exact refS_none (refC_none (Hws.out.symm.trans Hwr.out) (fun _ => by rw [Hx.out]; decide) (fun h => absurd h Hr.out) (fun _ _ _ h => by rw [Hx.out] at h; exact absurd h (by decide))))
        go_wp2
        refine bodyPost_ret (v := .agg #[.int .i64 0, .int .i64 0, .int .i64 0, .slice none 0 0]) (by simp [results, Tryd.results21, go_sem, d0, d1, d2, d3, hg2l]) rfl ?_
        rw [HRn.out]
        exact ⟨none, 0, rfl, SL.nil, ((((Hb2.out).setCell (p := ⟨g2, 0, none⟩) hwg _).setCell (p := ⟨g2, 1, none⟩) hwg _).setCell (p := ⟨g2, 2, none⟩) hwg _).setCell (p := ⟨g2, 3, none⟩) hwg _⟩
    · have b1 : (x == [115, 121, 110, 99]) = false := by rw [hx]; rfl
      have b2 : (x == [115, 116, 97, 114, 116]) = false := by rw [hx]; rfl
      have b3 : (x == [99, 114, 97, 115, 104]) = false := by rw [hx]; rfl
      have b4 : (x == [97, 115, 107]) = true := by rw [hx]; rfl
      by_cases hr : ∃ v h, r = [v, h]
      · obtain ⟨v, h, hr⟩ := hr
        have hi1 : (1 : Int) < (ws.length : Int) := by rw [hlr, hr]; simp
        have hi2 : (2 : Int) < (ws.length : Int) := by rw [hlr, hr]; simp
        have bl3 : ((ws.length : Int) == 3) = true := by rw [hlr, hr]; rfl
        obtain ⟨S2, hS2⟩ : ∃ S2 : ByteArray, S2 = ⟨h.toArray⟩ := ⟨_, rfl⟩
        have hsz2 : S2.size = h.length := by rw [hS2, size_mk]
        have HS2 := Lib.hid (show S2.data.toList = h from by rw [hS2])
        have hq2 : w2.cell? ⟨g3, off + 2, none⟩ = some (.string S2) := by
          have := Hcs2.out 2 (by rw [hlr, hr]; simp)
          rw [this, hS2]
          simp [Hwr.out, hr]
        have hw2i : ws[2]'(by rw [hlr, hr]; simp) = h := by simp [Hwr.out, hr]
        have hlen2 : 2 < ws.length := by rw [hlr, hr]; simp
        have Hr := Lib.hid hr
        have Hx := Lib.hid hx
        have Hlr := Lib.hid hlr
        have Hsz2 := Lib.hid hsz2
        by_cases hev : h.length % 2 = 0
        · have hq1 : w2.cell? ⟨g3, off + 1, none⟩ = some (.string ⟨v.toArray⟩) := by
            have := Hcs2.out 1 (by rw [hlr, hr]; simp)
            rw [this]
            simp [Hwr.out, hr]
          have Hvl := Lib.hid (Hlen2.out v (by rw [Hwr.out, hr]; simp))
          have Hhl := Lib.hid (Hlen2.out h (by rw [Hwr.out, hr]; simp))
          have b7 : ((S2.size : Int) % 2 == 0) = true := by rw [beq_iff_eq]; omega
          have HC := Lib.hid (show refC S.data.toList = askOf (wholeS v) (hexF h) from by unfold refC; rw [Hws.out.symm.trans Hwr.out, hr, hx]; cases h9 : hexF h <;> simp [hev, h9, askOf])
          have Hev := Lib.hid hev
          have H2i := Lib.hid (show (Value.string ⟨(ws[2]'hlen2).toArray⟩ : Value) = .string S2 from by rw [hw2i, hS2])
          clear hx hr hlr hw2i hS2 hsz2 hev
          go_upto_region 13 with (go_at_call 33; (refine (whole_at _ v Hvl.out).mono ?_); rintro e w5 ⟨rfl, hv5⟩; have hz5 := hv5.size; simp only [World.size_setCell] at hz5; have hbx5 := (hv5.block g4 (by simp only [World.size_setCell]; omega)).trans (heap_setCell_same _ _ 0 _ _ (.int .i64 1) Hx2.out); have hbr5 := (hv5.block g2 (by simp only [World.size_setCell]; omega)).trans ((heap_setCell_other w2 ⟨g4, 0, none⟩ _ (.int .i64 1) (show g2 ≠ g4 by omega)).trans Hx02.out); have Hw5 := Lib.hid ((Hb2.out.setCell (p := ⟨g4, 0, none⟩) hwg4 (.int .i64 1)).trans (hv5.mono (by simp only [World.size_setCell]; omega))); have Hcs5 := Lib.hid (show ∀ k (hk : k < ws.length), w5.cell? ⟨g3, off + k, none⟩ = some (.string ⟨(ws[k]).toArray⟩) from fun k hk => (World.cell?_of_block (w := w2) ((hv5.block g3 (by simp only [World.size_setCell]; omega)).trans (heap_setCell_other w2 ⟨g4, 0, none⟩ _ (.int .i64 1) (show g3 ≠ g4 by omega)))).trans (Hcs2.out k hk)); clear c0 c1 c2 c3 f0 f1 f2 f3 d0 d1 d2 d3 e0 e1 e2 e3; obtain ⟨c0, c1, c2, c3, f0, f1, f2, f3⟩ := box4L hbx5; obtain ⟨d0, d1, d2, d3, e0, e1, e2, e3⟩ := box4L hbr5; have h4l5 : g4 < w5.heap.size := (by omega); have h2l5 : g2 < w5.heap.size := (by omega); have Hbx5 := Lib.hid hbx5; have Hbr5 := Lib.hid hbr5; clear hbx5 hbr5 hv5)
          generalize wholeS v = n at *
          have hwx := heap_setCell_same _ _ 1 _ _ (.int .i64 n) Hbx5.out
          have hwr2 := (heap_setCell_other w5 ⟨g4, 1, none⟩ _ (.int .i64 n) (show g2 ≠ g4 by omega)).trans Hbr5.out
          have hwb := Hw5.out.setCell (p := ⟨g4, 1, none⟩) hwg4 (.int .i64 n)
          have hwz : (w5.setCell ⟨g4, 1, none⟩ (.int .i64 n)).heap.size = w5.heap.size := by simp [World.setCell]
          have hwc : ∀ k (hk : k < ws.length), (w5.setCell ⟨g4, 1, none⟩ (.int .i64 n)).cell? ⟨g3, off + k, none⟩ = some (.string ⟨(ws[k]).toArray⟩) := fun k hk => (World.cell?_of_block (w := w5) (heap_setCell_other w5 ⟨g4, 1, none⟩ _ (.int .i64 n) (show g3 ≠ g4 by omega))).trans (Hcs5.out k hk)
          obtain ⟨wk, hwk⟩ : ∃ wk, wk = w5.setCell ⟨g4, 1, none⟩ (.int .i64 n) := ⟨_, rfl⟩
          rw [← hwk] at hwx hwr2 hwb hwz hwc ⊢
          have h4k : g4 < wk.heap.size := by omega
          have h2k : g2 < wk.heap.size := by omega
          have Hbk := Lib.hid (show wk.heap[g4]? = some (.cells #[.int .i64 1, .int .i64 n, .int .i64 0, .slice none 0 0] 34 (0, 0)) from hwx)
          have Hrk := Lib.hid hwr2
          have Hwk := Lib.hid hwb
          have Hck := Lib.hid hwc
          clear hwk hwx hwr2 hwb hwz hwc c0 c1 c2 c3 f0 f1 f2 f3 d0 d1 d2 d3 e0 e1 e2 e3
          obtain ⟨c0, c1, c2, c3, f0, f1, f2, f3⟩ := box4L Hbk.out
          obtain ⟨d0, d1, d2, d3, e0, e1, e2, e3⟩ := box4L Hrk.out
          have hq2k : wk.cell? ⟨g3, off + 2, none⟩ = some (.string S2) := (Hck.out 2 hlen2).trans (congrArg some H2i.out)
          go_wp2_with fail
          go_loopw [5, 6, 7] (fun jv _ _ wr => ∃ (j : Nat) (acc : List UInt8) (vv : Value), jv = .int .i64 j ∧ j % 2 = 0 ∧ j ≤ S2.size ∧ wr.heap[g4]? = some (.cells #[.int .i64 1, .int .i64 n, .int .i64 0, vv] 34 (0, 0)) ∧ OwB wk.heap.size wr vv acc ∧ hexF h = (hexF (h.drop j)).map (acc ++ ·) ∧ acc.length ≤ j ∧ Below g4 wk wr) (fun jv _ _ _ => S2.size - (intOf jv).toNat)
          case atStart => exact ⟨0, [], _, rfl, rfl, Nat.zero_le _, Hbk.out, World.ownsRow_nil _ _ _ _, by simp, Nat.le_refl _, Below.refl _ _⟩
          case round =>
            obtain ⟨j, acc, vv, rfl, hj2, hjl, hbx, ho, hun, hlen, hb6⟩ := hrel
            have Hbx := Lib.hid hbx
            have Ho := Lib.hid ho
            have Hun := Lib.hid hun
            have Hj := Lib.hid (show j % 2 = 0 ∧ acc.length ≤ j from ⟨hj2, hlen⟩)
            have Hb6 := Lib.hid hb6
            have hz6 := hb6.size
            have hg46 : g4 < wr.heap.size := by omega
            have hg36 : g3 < wr.heap.size := by omega
            have hq2r : wr.cell? ⟨g3, off + 2, none⟩ = some (.string S2) := (World.cell?_of_block (w := wk) (hb6.block g3 hg34)).trans hq2k
            clear c0 c1 c2 c3 f0 f1 f2 f3 d0 d1 d2 d3 e0 e1 e2 e3
            obtain ⟨c0, c1, c2, c3, f0, f1, f2, f3⟩ := box4L hbx
            clear hbx ho hun hb6 hj2 hlen
            by_cases hl : j < S2.size
            · have b1 : decide ((j : Int) < (S2.size : Int)) = true := by simp; omega
              obtain ⟨a0, a1, hd⟩ : ∃ a0 a1, h.drop j = a0 :: a1 :: h.drop (j + 2) := by
                have h1 := Hsz2.out
                have h2 := Hj.out.1
                have h3 := Hev.out
                exact ⟨h[j]'(by omega), h[j + 1]'(by omega), by rw [List.drop_eq_getElem_cons (by omega), List.drop_eq_getElem_cons (i := j + 1) (by omega)]⟩
              have hat0 : ∀ q, (S2[j]'q) = a0 := byte_atL (by rw [HS2.out]; have := congrArg (·[0]?) hd; simpa using this)
              have hj1 : j + 1 < S2.size := by have := Hj.out.1; have := Hsz2.out; have := Hev.out; omega
              have hsz9 : S2.size ≤ 2000000 := by rw [Hsz2.out]; exact Hhl.out
              have hat1 : ∀ q, (S2[j + 1]'q) = a1 := byte_atL (by rw [HS2.out]; have := congrArg (·[1]?) hd; simpa using this)
              have Hd := Lib.hid hd
              have g2' : (j : Int) + 1 < (S2.size : Int) := by omega
              have g0 : (0 : Int) ≤ (j : Int) := by omega
              have g1 : (j : Int) < (S2.size : Int) := by omega
              obtain ⟨U, hU⟩ : ∃ U, hexN a0.toNat = U := ⟨_, rfl⟩
              obtain ⟨V, hV⟩ : ∃ V, hexN a1.toNat = V := ⟨_, rfl⟩
              have HU := Lib.hid (show hexV a0 = U from hU)
              have HV := Lib.hid (show hexV a1 = V from hV)
              clear hd
              go_upto_region 17 with (go_at_call 34; (with_reducible refine (hexNum_ok _ a0.toNat a0.toNat_lt).mono ?_); rw [hU]; rintro e w6 ⟨rfl, hv6⟩; have hq26 : w6.cell? ⟨g3, off + 2, none⟩ = some (.string S2) := (World.cell?_of_block (w := wr) (hv6.block g3 hg36)).trans hq2r; have hz7 := hv6.size; have hg37 : g3 < w6.heap.size := (by omega))
              go_upto_region 18 with (go_at_call 34; (with_reducible refine (hexNum_ok _ a1.toNat a1.toNat_lt).mono ?_); rw [hV]; rintro e w7 ⟨rfl, hv7⟩; have Hv67 := Lib.hid (hv6.trans (hv7.mono hz7)); clear hv6 hv7)
              have hz7 := Hv67.out.size
              have hg47 : g4 < w7.heap.size := by omega
              have hg27 : g2 < w7.heap.size := by omega
              have Hbx7 := Lib.hid ((Hv67.out.block g4 hg46).trans Hbx.out)
              have Hrk7 := Lib.hid ((Hv67.out.block g2 (by omega)).trans ((Hb6.out.block g2 hg24).trans Hrk.out))
              have Hw7 := Lib.hid ((Hwk.out.trans (Hb6.out.mono hwg4)).trans (Hv67.out.mono (by omega)))
              have Ho7 := Lib.hid (owb_below Ho.out Hv67.out)
              clear hq2r hq26 c0 c1 c2 c3 f0 f1 f2 f3
              obtain ⟨c0, c1, c2, c3, f0, f1, f2, f3⟩ := box4L Hbx7.out
              obtain ⟨d0, d1, d2, d3, e0, e1, e2, e3⟩ := box4L Hrk7.out
              clear hU hV hat0 hat1
              by_cases hbad : U < 0 ∨ V < 0
              · have HRn := Lib.hid (show R = noLn from by rw [HR.out]; exact refS_none (HC.out.trans (by rw [Hun.out, Hd.out, hexF, if_pos (by rw [HU.out, HV.out]; exact hbad)]; rfl)))
                by_cases hu : U < 0
                · have b2 : decide (U < 0) = true := by simpa using hu
                  clear hbad hu
                  go_wp2
                  refine bodyPost_ret (v := .agg #[.int .i64 0, .int .i64 0, .int .i64 0, .slice none 0 0]) (by simp [results, Tryd.results21, go_sem, d0, d1, d2, d3, hg27]) rfl ?_
                  rw [HRn.out]
                  exact ⟨none, 0, rfl, SL.nil, ((((Hw7.out).setCell (p := ⟨g2, 0, none⟩) hwg _).setCell (p := ⟨g2, 1, none⟩) hwg _).setCell (p := ⟨g2, 2, none⟩) hwg _).setCell (p := ⟨g2, 3, none⟩) hwg _⟩
                · have b2 : decide (U < 0) = false := by simpa using hu
                  have b3 : decide (V < 0) = true := by simpa using hbad.resolve_left hu
                  clear hbad hu
                  go_wp2
                  refine bodyPost_ret (v := .agg #[.int .i64 0, .int .i64 0, .int .i64 0, .slice none 0 0]) (by simp [results, Tryd.results21, go_sem, d0, d1, d2, d3, hg27]) rfl ?_
                  rw [HRn.out]
                  exact ⟨none, 0, rfl, SL.nil, ((((Hw7.out).setCell (p := ⟨g2, 0, none⟩) hwg _).setCell (p := ⟨g2, 1, none⟩) hwg _).setCell (p := ⟨g2, 2, none⟩) hwg _).setCell (p := ⟨g2, 3, none⟩) hwg _⟩
              · have b2 : decide (U < 0) = false := by simp; omega
                have b3 : decide (V < 0) = false := by simp; omega
                obtain ⟨u, rfl⟩ : ∃ u : Nat, U = u := ⟨U.toNat, by omega⟩
                obtain ⟨v2, rfl⟩ : ∃ v2 : Nat, V = v2 := ⟨V.toNat, by omega⟩
                have hu16 : u < 16 := by have := (hexD_hexV a0 (by rw [HU.out]; omega)).2; rw [HU.out] at this; simpa using this
                have hv16 : v2 < 16 := by have := (hexD_hexV a1 (by rw [HV.out]; omega)).2; rw [HV.out] at this; simpa using this
                have Hun2 := Lib.hid (show hexF h = (hexF (h.drop (j + 2))).map ((acc ++ [UInt8.ofNat (16 * u + v2)]) ++ ·) from by
                  rw [Hun.out, Hd.out, hexF, if_neg (by rw [HU.out, HV.out]; exact hbad), HU.out, HV.out, Option.map_map]
                  congr 1
                  funext d
                  simp only [Function.comp, List.append_assoc, List.singleton_append]
                  congr 3)
                obtain ⟨bb, hbb⟩ : ∃ bb : UInt8, bb = UInt8.ofNat (16 * u + v2) := ⟨_, rfl⟩
                have hbn : bb.toNat = 16 * u + v2 := by rw [hbb, UInt8.toNat_ofNat']; omega
                rw [← hbb] at Hun2
                have Hbn := Lib.hid hbn
                clear hbad hbb hbn b1
                have hhb : h.length ≤ 2000000 := Hhl.out
                have Hlim := Lib.hid (show acc.length + 1 ≤ 140737488355328 from by have := Hj.out.2; omega)
                clear hhb c0 c1 c2 f0 f1 f2 f3
                go_wp2_with (at_builtin; rw [show (16 * (u : Int) + (v2 : Int)) = ((bb.toNat : Nat) : Int) from by (have := Hbn.out; omega)]; refine owb_bytes _ rfl _ _ rfl wk.heap.size vv acc rfl (owb_alloc Ho7.out _) _ _ [bb] rfl (box_new _ _ _) ?hl ?hb ?_; (case hl => exact Hlim.out); (case hb => (have := Hb6.out.size; simp; omega)); intro v8 w8 ho8 hv8; obtain ⟨A8, c8, e8, _⟩ := owb_bs ho8; rw [List.length_append, List.length_singleton] at e8; subst e8; have Ho8 := Lib.hid ho8; have hz8 := hv8.size; simp at hz8; have hg48 : g4 < w8.heap.size := (by omega); have Hbx8 := Lib.hid ((hv8.block g4 h4k).trans ((heap_alloc_old _ _ hg47).trans Hbx7.out)); obtain ⟨m0, m1, m2, m3, n0, n1, n2, n3⟩ := box4L Hbx8.out; have Hw8 := Lib.hid (show Below g4 wk w8 from ((Hb6.out.trans (Hv67.out.mono (by omega))).alloc (by omega) _).trans (hv8.mono (by omega))); clear ho8 hv8)
                case' roundEnd =>
                  have hW8 := heap_setCell_same _ _ 3 _ _ (.slice A8 (acc.length + 1) c8) Hbx8.out
                  have ho9 : OwB wk.heap.size (w8.setCell ⟨g4, 3, none⟩ (.slice A8 (acc.length + 1) c8)) (.slice A8 (acc.length + 1) c8) (acc ++ [bb]) := owb_off Ho8.out h4k
                  exact ⟨⟨j + 2, acc ++ [bb], .slice A8 (acc.length + 1) c8, by first | rfl | (congr 1; done), by have := Hj.out.1; omega, by omega, hW8, ho9, Hun2.out, by have := Hj.out.2; simp; omega, Hw8.out.setCell (p := ⟨g4, 3, none⟩) (Nat.le_refl _) _⟩, by simp [intOf]; omega⟩
            · have b1 : decide ((j : Int) < (S2.size : Int)) = false := by simp; omega
              have hd : h.drop j = [] := List.drop_eq_nil_of_le (by rw [← Hsz2.out]; omega)
              have hC := HC.out
              rw [Hun.out, hd] at hC
              have HC2 := Lib.hid (show refC S.data.toList = ⟨1, n, 0, acc⟩ from by rw [hC]; simp [hexF, askOf])
              have Hown := Lib.hid Ho.out
              obtain ⟨A8, c8, rfl, _⟩ := owb_bs Ho.out
              have HDk := Lib.hid ((SL.bof_own Hown.out).2.blo (show g2 + 1 ≤ wk.heap.size by omega))
              have Hrk := Lib.hid ((Hb6.out.block g2 hg24).trans Hrk.out)
              have Hwk := Lib.hid (Hwk.out.trans (Hb6.out.mono hwg4))
              have h4k : g4 < wr.heap.size := hg46
              have h2k : g2 < wr.heap.size := by omega
              have Hbk := Lib.hid Hbx.out
              obtain ⟨d0, d1, d2, d3, e0, e1, e2, e3⟩ := box4L Hrk.out
              clear hC hd Hbx
              by_cases hf : lnFault ⟨1, n, 0, acc⟩ = 0
              · have HRn := Lib.hid (show R = ⟨1, n, 0, acc⟩ from by rw [HR.out]; exact refS_good HC2.out (show (1 : Int) ≠ 0 by decide) hf)
                have Hf := Lib.hid hf
                clear hf
                go_wp2_with (go_at_call 16; (refine (actFault_ok _ 1 n 0 A8 acc.length c8).mono ?_); rw [show actFaultS 1 n 0 acc.length = 0 from Hf.out]; rintro e w9 ⟨rfl, hv9⟩; have hz9 := hv9.size; have hbx9 := (hv9.block g4 h4k).trans Hbk.out; have hbr9 := (hv9.block g2 h2k).trans Hrk.out; have Hw9 := Lib.hid (Hwk.out.trans (hv9.mono Hwk.out.size)); have hg2l9 : g2 < w9.heap.size := (by omega); have Hv9 := Lib.hid hv9; clear c0 c1 c2 c3 f0 f1 f2 f3 d0 d1 d2 d3 e0 e1 e2 e3; obtain ⟨c0, c1, c2, c3, f0, f1, f2, f3⟩ := box4L hbx9; obtain ⟨d0, d1, d2, d3, e0, e1, e2, e3⟩ := box4L hbr9; clear hbx9 hbr9 hv9)
                refine bodyPost_ret (v := .agg #[.int .i64 (1), .int .i64 (n), .int .i64 (0), .slice A8 acc.length c8]) (by simp [results, Tryd.results21, go_sem, d0, d1, d2, d3, hg2l9]) rfl ?_
                rw [HRn.out]
                exact ⟨A8, c8, rfl, (((HDk.out.bbelow Hv9.out)).bsame (((((Same.refl _ _).setCell (p := ⟨g2, 0, none⟩) (show ¬ From (g2 + 1) g2 from fun h9 => Nat.not_succ_le_self _ h9) _).setCell (p := ⟨g2, 1, none⟩) (show ¬ From (g2 + 1) g2 from fun h9 => Nat.not_succ_le_self _ h9) _).setCell (p := ⟨g2, 2, none⟩) (show ¬ From (g2 + 1) g2 from fun h9 => Nat.not_succ_le_self _ h9) _).setCell (p := ⟨g2, 3, none⟩) (show ¬ From (g2 + 1) g2 from fun h9 => Nat.not_succ_le_self _ h9) _)).blo (by omega), ((((Hw9.out).setCell (p := ⟨g2, 0, none⟩) hwg _).setCell (p := ⟨g2, 1, none⟩) hwg _).setCell (p := ⟨g2, 2, none⟩) hwg _).setCell (p := ⟨g2, 3, none⟩) hwg _⟩
              · have HRn := Lib.hid (show R = noLn from by rw [HR.out]; exact refS_bad HC2.out hf)
                obtain ⟨F, hF⟩ : ∃ F, actFaultS 1 n 0 acc.length = F := ⟨_, rfl⟩
                have b9 : (F != 0) = true := by rw [← hF]; simpa [lnFault] using hf
                go_wp2_with (go_at_call 16; (refine (actFault_ok _ 1 n 0 A8 acc.length c8).mono ?_); rw [show actFaultS 1 n 0 acc.length = F from hF]; rintro e w9 ⟨rfl, hv9⟩; have hz9 := hv9.size; have hbx9 := (hv9.block g4 h4k).trans Hbk.out; have hbr9 := (hv9.block g2 h2k).trans Hrk.out; have Hw9 := Lib.hid (Hwk.out.trans (hv9.mono Hwk.out.size)); have hg2l9 : g2 < w9.heap.size := (by omega); have Hv9 := Lib.hid hv9; clear c0 c1 c2 c3 f0 f1 f2 f3 d0 d1 d2 d3 e0 e1 e2 e3; obtain ⟨c0, c1, c2, c3, f0, f1, f2, f3⟩ := box4L hbx9; obtain ⟨d0, d1, d2, d3, e0, e1, e2, e3⟩ := box4L hbr9; clear hbx9 hbr9 hv9)
                refine bodyPost_ret (v := .agg #[.int .i64 0, .int .i64 0, .int .i64 0, .slice none 0 0]) (by simp [results, Tryd.results21, go_sem, d0, d1, d2, d3, hg2l9]) rfl ?_
                rw [HRn.out]
                exact ⟨none, 0, rfl, SL.nil, ((((Hw9.out).setCell (p := ⟨g2, 0, none⟩) hwg _).setCell (p := ⟨g2, 1, none⟩) hwg _).setCell (p := ⟨g2, 2, none⟩) hwg _).setCell (p := ⟨g2, 3, none⟩) hwg _⟩
        · have b7 : ((S2.size : Int) % 2 == 0) = false := by rw [beq_eq_false_iff_ne]; omega
          have Hev := Lib.hid hev
          clear hx hr hlr hw2i hS2 hsz2 hev
          have HRn := Lib.hid (show R = noLn from by rw [HR.out]; exact refS_none (refC_none (Hws.out.symm.trans Hwr.out) (fun h9 => by rw [Hr.out] at h9; cases h9) (fun h9 => by rw [Hr.out] at h9; cases h9) (fun v9 h9 e9 _ => by rw [Hr.out] at e9; cases e9; exact Hev.out)))
          go_wp2
          refine bodyPost_ret (v := .agg #[.int .i64 0, .int .i64 0, .int .i64 0, .slice none 0 0]) (by simp [results, Tryd.results21, go_sem, d0, d1, d2, d3, hg2l]) rfl ?_
          rw [HRn.out]
          exact ⟨none, 0, rfl, SL.nil, ((((Hb2.out).setCell (p := ⟨g2, 0, none⟩) hwg _).setCell (p := ⟨g2, 1, none⟩) hwg _).setCell (p := ⟨g2, 2, none⟩) hwg _).setCell (p := ⟨g2, 3, none⟩) hwg _⟩
      · have hrl : r.length ≠ 2 := fun h => by
          match r, h with
          | [v, h], _ => exact hr ⟨v, h, rfl⟩
        have bl3 : ((ws.length : Int) == 3) = false := by rw [beq_eq_false_iff_ne]; omega
        have Hr := Lib.hid hr
        have Hx := Lib.hid hx
        clear hx hr hrl hlr
        have HRn := Lib.hid (show R = noLn from by rw [HR.out]; exact refS_none (refC_none (Hws.out.symm.trans Hwr.out) (fun _ => by rw [Hx.out]; decide) (fun _ => by rw [Hx.out]; decide) (fun v9 h9 e9 _ => absurd ⟨v9, h9, e9⟩ Hr.out)))
        go_wp2
        refine bodyPost_ret (v := .agg #[.int .i64 0, .int .i64 0, .int .i64 0, .slice none 0 0]) (by simp [results, Tryd.results21, go_sem, d0, d1, d2, d3, hg2l]) rfl ?_
        rw [HRn.out]
        exact ⟨none, 0, rfl, SL.nil, ((((Hb2.out).setCell (p := ⟨g2, 0, none⟩) hwg _).setCell (p := ⟨g2, 1, none⟩) hwg _).setCell (p := ⟨g2, 2, none⟩) hwg _).setCell (p := ⟨g2, 3, none⟩) hwg _⟩
end Go.Proofs.YtjidppcfjkjjoaaDoor
namespace Go.Proofs.YtjidppcfjkjjoaaDoor
open Go.RowKit
set_option linter.unusedVariables false
set_option linter.unusedSimpArgs false

/-- The call returns acts and where it stopped. -/
def RetRead (w : World) (r : List Le × Int × Int) (e : Ending) (w' : World) : Prop := ∃ A c, e = .returned (.tuple #[.slice A r.1.length c, .int .i64 r.2.1, .int .i64 r.2.2]) ∧ Les (From w.heap.size) w' A r.1 ∧ Below w.heap.size w w'
theorem ln_data {a : Le} (h : lnFault a = 0) : a.data.length ≤ 4000 := by
  rcases Nat.lt_or_ge 4000 a.data.length with h9 | h9
  · exfalso
    unfold lnFault actFaultS at h
    repeat' split at h
    all_goals first | omega | (cases h; done) | (simp at h; done)
  · exact h9
set_option maxRecDepth 100000 in
set_option maxHeartbeats 2000000 in
theorem actsRead_ok (w : World) (S : ByteArray) : Calls Tryd.prog 10 #[.string S] w (RetRead w (readS S.data.toList)) := by
  obtain ⟨i0, hi0, hz0, hz1, hz2⟩ := info_parts info_ln
  have hS := Lib.size_eq S
  obtain ⟨s, hse⟩ : ∃ s, s = S.data.toList := ⟨_, rfl⟩
  rw [← hse] at hS ⊢
  have Hse := Lib.hid hse
  have HS := Lib.hid hS
  clear hse hS
  by_cases hs : 2000000 < S.size
  · have Hr := Lib.hid (show readS s = ([], 0, 1) by unfold readS; rw [if_pos (by rw [← HS.out]; exact hs)])
    have b1 : decide ((2000000 : Int) < (S.size : Int)) = true := by simp; omega
    go_enter Tryd.func10, Tryd.ntmps10
    go_wp2
    refine bodyPost_ret (v := .tuple #[.slice none 0 0, .int .i64 0, .int .i64 1]) (by simp [results, Tryd.results10, go_sem]) rfl ?_
    rw [Hr.out]
    exact ⟨none, 0, rfl, SL.nil, Below.refl _ _⟩
  have b0 : decide ((2000000 : Int) < (S.size : Int)) = false := by simp; omega
  have hrs : readS s = readFrom (linesOf s) [] := by unfold readS; rw [if_neg (by rw [← HS.out]; exact hs)]
  have Hrs := Lib.hid hrs
  clear hrs
  go_enter Tryd.func10, Tryd.ntmps10
  go_wp2
  go_loopw [5, 6, 7] (fun v fr i wr => ∃ (j f : Nat) (acc : List Le), i = .int .i64 j ∧ fr = .int .i64 f ∧ acc.length ≤ 100000 ∧ Own 4 LeR (From w.heap.size) wr w.heap.size 34 v acc ∧ Below w.heap.size w wr ∧ ((j ≤ S.size ∧ f ≤ j ∧ readS s = readFrom (linesOf (s.drop f)) acc ∧ (10 : UInt8) ∉ (s.drop f).take (j - f)) ∨ (j = S.size + 1 ∧ readS s = (acc, 0, 0)))) (fun _ _ i _ => S.size + 1 - (intOf i).toNat)
  case atStart => exact ⟨0, 0, [], rfl, rfl, Nat.zero_le _, Own.nil _ _ _, Below.refl _ _, .inl ⟨Nat.zero_le _, Nat.le_refl _, Hrs.out, by simp⟩⟩
  case round =>
    obtain ⟨j, f, acc, rfl, rfl, hac, hown, hbel, hst⟩ := hrel
    have Hown := Lib.hid hown
    have Hbel := Lib.hid hbel
    have hbz := hbel.size
    obtain ⟨A0, c0, rfl, _⟩ := hown.read leR_stays
    clear hown hbel
    rcases hst with ⟨hj, hf, hun, hno⟩ | ⟨rfl, hun⟩
    · have Hun := Lib.hid hun
      have Hno := Lib.hid hno
      clear hun hno
      have b1 : decide ((j : Int) ≤ (S.size : Int)) = true := by simp; omega
      have hjS : (j : Int) ≤ (S.size : Int) := by omega
      have hfj : (f : Int) ≤ (j : Int) := by omega
      have hf0 : (0 : Int) ≤ (f : Int) := by omega
      have hj0 : (0 : Int) ≤ (j : Int) := by omega
      have hext : (S.extract f j).data.toList = (s.drop f).take (j - f) := by rw [Lib.extract_data, Hse.out]
      have Hext := Lib.hid hext
      have hexz : (S.extract f j).size ≤ 2000000 := by rw [ByteArray.size_extract]; omega
      have Hexz := Lib.hid hexz
      clear hext hexz
      by_cases he : j = S.size
      · have b2 : decide ((j : Int) < (S.size : Int)) = false := by simp; omega
        have hnlt : ¬ j < S.size := by omega
        have b3 : ((j : Int) == (S.size : Int)) = true := by rw [beq_iff_eq]; omega
        have hrest : (s.drop f).take (j - f) = s.drop f := List.take_of_length_le (by rw [List.length_drop, ← HS.out]; omega)
        have hno2 := Hno.out
        rw [hrest] at hno2
        by_cases hz : f = S.size
        · have b4 : ((f : Int) == (S.size : Int)) = true := by rw [beq_iff_eq]; omega
          have Hend := Lib.hid (show readS s = (acc, 0, 0) by rw [Hun.out, List.drop_eq_nil_of_le (by rw [← HS.out]; omega)]; rfl)
          clear hrest hno2 he
          go_wp2
          case' roundEnd => exact ⟨⟨j + 1, f, acc, rfl, by rw [hz], hac, Hown.out, Hbel.out, .inr ⟨by omega, Hend.out⟩⟩, by simp [intOf]; omega⟩
        · have b4 : ((f : Int) == (S.size : Int)) = false := by rw [beq_eq_false_iff_ne]; omega
          have hnil : s.drop f ≠ [] := by intro h9; have := congrArg List.length h9; rw [List.length_drop, ← HS.out] at this; simp at this; omega
          have Hun2 := Lib.hid (show readS s = if acc.length = 100000 then ([], 100000, 11) else ([], (acc.length : Int), 4) by
            rw [Hun.out, linesOf_one hno2 hnil, readFrom, okS_bare (fun h9 => hno2 (List.mem_of_getLast? h9))])
          clear hrest hno2 hnil he
          by_cases hfull : acc.length = 100000
          · have Hr := Lib.hid (show readS s = ([], 100000, 11) by rw [Hun2.out, if_pos hfull])
            have b5 : ((acc.length : Int) == 100000) = true := by rw [beq_iff_eq]; omega
            clear hfull
            go_wp2
            refine bodyPost_ret (v := .tuple #[.slice none 0 0, .int .i64 100000, .int .i64 11]) (by simp [results, Tryd.results10, go_sem]) rfl ?_
            rw [Hr.out]
            exact ⟨none, 0, rfl, SL.nil, Hbel.out⟩
          · have Hr := Lib.hid (show readS s = ([], (acc.length : Int), 4) by rw [Hun2.out, if_neg hfull])
            have b5 : ((acc.length : Int) == 100000) = false := by rw [beq_eq_false_iff_ne]; omega
            obtain ⟨a, ha⟩ : ∃ a, refS (S.extract f j).data.toList = a := ⟨_, rfl⟩
            clear hfull
            by_cases hk : a.kind = 0
            · have b6 : (a.kind == 0) = true := by simpa using hk
              clear hk
              go_wp2_with (go_at_call 21; (refine (lineAct_ok _ (S.extract f j) Hexz.out).mono ?_); rw [ha]; rintro e w5 ⟨D, d, rfl, hbs, hv5⟩; have HD := Lib.hid hbs; have Hv5 := Lib.hid hv5; have hz5 := hv5.size; clear hbs hv5; obtain ⟨c0, c1, c2, c3, f0, f1, f2, f3⟩ := box4L (box_new w5 #[.int .i64 a.kind, .int .i64 a.session, .int .i64 a.keep, .slice D a.data.length d] 34); have Hv6 := Lib.hid ((Hbel.out.trans (Hv5.out.mono hbz)).alloc (by omega) (.cells #[.int .i64 a.kind, .int .i64 a.session, .int .i64 a.keep, .slice D a.data.length d] 34)))
              refine bodyPost_ret (v := .tuple #[.slice none 0 0, .int .i64 acc.length, .int .i64 4]) (by simp [results, Tryd.results10, go_sem]) rfl ?_
              rw [Hr.out]
              exact ⟨none, 0, rfl, SL.nil, Hv6.out⟩
            · have b6 : (a.kind == 0) = false := by simpa using hk
              clear hk
              go_wp2_with (go_at_call 21; (refine (lineAct_ok _ (S.extract f j) Hexz.out).mono ?_); rw [ha]; rintro e w5 ⟨D, d, rfl, hbs, hv5⟩; have HD := Lib.hid hbs; have Hv5 := Lib.hid hv5; have hz5 := hv5.size; clear hbs hv5; obtain ⟨c0, c1, c2, c3, f0, f1, f2, f3⟩ := box4L (box_new w5 #[.int .i64 a.kind, .int .i64 a.session, .int .i64 a.keep, .slice D a.data.length d] 34); have Hv6 := Lib.hid ((Hbel.out.trans (Hv5.out.mono hbz)).alloc (by omega) (.cells #[.int .i64 a.kind, .int .i64 a.session, .int .i64 a.keep, .slice D a.data.length d] 34)))
              refine bodyPost_ret (v := .tuple #[.slice none 0 0, .int .i64 acc.length, .int .i64 4]) (by simp [results, Tryd.results10, go_sem]) rfl ?_
              rw [Hr.out]
              exact ⟨none, 0, rfl, SL.nil, Hv6.out⟩
      · have b2 : decide ((j : Int) < (S.size : Int)) = true := by simp; omega
        have b3 : ((j : Int) == (S.size : Int)) = false := by rw [beq_eq_false_iff_ne]; omega
        have hjl : j < s.length := by rw [← HS.out]; omega
        obtain ⟨c, hc⟩ : ∃ c, s[j]? = some c := ⟨_, List.getElem?_eq_getElem hjl⟩
        have g1 : (j : Int) < (S.size : Int) := by omega
        have hat : ∀ q, (S[j]'q) = c := byte_atL (by rw [← Hse.out]; exact hc)
        have Hc := Lib.hid hc
        clear hc
        by_cases hb : c = 10
        · subst hb
          have hsp : s.drop f = (s.drop f).take (j - f) ++ 10 :: s.drop (j + 1) := by
            obtain ⟨_, hc9⟩ := List.getElem?_eq_some_iff.1 Hc.out
            conv => lhs; rw [← List.take_append_drop (j - f) (s.drop f)]
            rw [List.drop_drop, show f + (j - f) = j by omega, List.drop_eq_getElem_cons hjl, hc9]
          have Hun2 := Lib.hid (show readS s = readFrom (((s.drop f).take (j - f) ++ [10]) :: linesOf (s.drop (j + 1))) acc by
            rw [Hun.out]; conv => lhs; rw [hsp, linesOf_app Hno.out])
          clear hsp he
          by_cases hfull : acc.length = 100000
          · have Hr := Lib.hid (show readS s = ([], 100000, 11) by rw [Hun2.out, readFrom, if_pos hfull])
            have b5 : ((acc.length : Int) == 100000) = true := by rw [beq_iff_eq]; omega
            clear hfull
            go_wp2
            refine bodyPost_ret (v := .tuple #[.slice none 0 0, .int .i64 100000, .int .i64 11]) (by simp [results, Tryd.results10, go_sem]) rfl ?_
            rw [Hr.out]
            exact ⟨none, 0, rfl, SL.nil, Hbel.out⟩
          · have b5 : ((acc.length : Int) == 100000) = false := by rw [beq_eq_false_iff_ne]; omega
            obtain ⟨a, ha⟩ : ∃ a, refS (S.extract f j).data.toList = a := ⟨_, rfl⟩
            have ha2 : refS ((s.drop f).take (j - f)) = a := by rw [← Hext.out]; exact ha
            have hok := okS_ref ((s.drop f).take (j - f))
            rw [ha2] at hok
            by_cases hk : a.kind = 0
            · have Hr := Lib.hid (show readS s = ([], (acc.length : Int), 4) by rw [Hun2.out, readFrom, if_neg hfull, hok, if_neg (by simpa using hk)])
              have b6 : (a.kind == 0) = true := by simpa using hk
              clear hfull hok ha2 hk
              go_wp2_with (go_at_call 21; (refine (lineAct_ok _ (S.extract f j) Hexz.out).mono ?_); rw [ha]; rintro e w5 ⟨D, d, rfl, hbs, hv5⟩; have HD := Lib.hid hbs; have Hv5 := Lib.hid hv5; have hz5 := hv5.size; clear hbs hv5; obtain ⟨c0, c1, c2, c3, f0, f1, f2, f3⟩ := box4L (box_new w5 #[.int .i64 a.kind, .int .i64 a.session, .int .i64 a.keep, .slice D a.data.length d] 34); have Hv6 := Lib.hid ((Hbel.out.trans (Hv5.out.mono hbz)).alloc (by omega) (.cells #[.int .i64 a.kind, .int .i64 a.session, .int .i64 a.keep, .slice D a.data.length d] 34)))
              refine bodyPost_ret (v := .tuple #[.slice none 0 0, .int .i64 acc.length, .int .i64 4]) (by simp [results, Tryd.results10, go_sem]) rfl ?_
              rw [Hr.out]
              exact ⟨none, 0, rfl, SL.nil, Hv6.out⟩
            · have Hr := Lib.hid (show readS s = readFrom (linesOf (s.drop (j + 1))) (acc ++ [a]) by rw [Hun2.out, readFrom, if_neg hfull, hok, if_pos hk])
              have b6 : (a.kind == 0) = false := by simpa using hk
              have Hdat := Lib.hid (show a.data.length ≤ big from by
                have h9 := ln_data (ref_back (s := (s.drop f).take (j - f)) (by rw [ha2]; exact hk)).1
                rw [ha2] at h9
                exact Nat.le_trans h9 (by decide))
              have HL := Lib.hid (show acc.length + 1 ≤ maxLen ∧ (acc.length + 1) * 48 ≤ 140737488355328 from ⟨by simp only [maxLen]; omega, by omega⟩)
              have Hac := Lib.hid (show acc.length + 1 ≤ 100000 by omega)
              clear hfull hok ha2 hk
              go_wp2_with (first | (go_at_call 21; (refine (lineAct_ok _ (S.extract f j) Hexz.out).mono ?_); rw [ha]; rintro e w5 ⟨D, d, rfl, hbs, hv5⟩; have HD := Lib.hid hbs; have Hv5 := Lib.hid hv5; have hz5 := hv5.size; clear hbs hv5; obtain ⟨c0, c1, c2, c3, f0, f1, f2, f3⟩ := box4L (box_new w5 #[.int .i64 a.kind, .int .i64 a.session, .int .i64 a.keep, .slice D a.data.length d] 34); have Hv6 := Lib.hid ((Hbel.out.trans (Hv5.out.mono hbz)).alloc (by omega) (.cells #[.int .i64 a.kind, .int .i64 a.session, .int .i64 a.keep, .slice D a.data.length d] 34))) | (at_builtin; refine wpl_snoc leR_stays (S := From w.heap.size) _ rfl _ _ _ rfl w.heap.size 34 i0 _ 4 48 Tryd.underlying22 hi0 hz0 hz1 hz2 rfl (by decide) _ acc rfl ?hown _ _ [.int .i64 a.kind, .int .i64 a.session, .int .i64 a.keep, .slice D a.data.length d] rfl rfl (new_src _ _ [.int .i64 a.kind, .int .i64 a.session, .int .i64 a.keep, .slice D a.data.length d] _ (by simp)) (by simp [Value.oneCell']) ?hm ?hby ?hba a ?hd ?_; (case hown => exact Own.below leR_stays (Own.below leR_stays Hown.out Hv5.out) (((Below.refl _ _).alloc (Nat.le_refl _) _).alloc (by simp) _)); (case hm => exact HL.out.1); (case hby => exact HL.out.2); (case hba => (simp; omega)); (case hd => exact ⟨D, d, rfl, (HD.out.bbelow (((Below.refl _ _).alloc (Nat.le_refl _) _).alloc (by simp) _)).bless (fun b _ h9 => ⟨Nat.le_trans hbz h9, Hown.out.apart wr.heap.size (Nat.le_refl _) b h9⟩), Hdat.out⟩); intro v8 w8 hown8 hbw8))
              case' roundEnd => exact ⟨⟨j + 1, j + 1, acc ++ [a], rfl, rfl, by have h9 := Hac.out; simpa using h9, hown8, (Hv6.out.alloc (by have := Hv6.out.size; omega) _).trans hbw8, .inl ⟨by omega, Nat.le_refl _, Hr.out, by simp⟩⟩, by simp [intOf]; omega⟩
        · have b4 : ((c.toNat : Int) != 10) = true := by rw [bne_iff_ne]; intro h9; exact hb (UInt8.toNat.inj (by show c.toNat = 10; omega))
          have Hno2 := Lib.hid (show (10 : UInt8) ∉ (s.drop f).take (j + 1 - f) from by rw [take_more hf Hc.out]; intro h9; rcases List.mem_append.1 h9 with h9 | h9; exact Hno.out h9; exact hb (List.mem_singleton.1 h9).symm)
          clear hb he
          go_wp2
          case' roundEnd => exact ⟨⟨j + 1, f, acc, rfl, rfl, hac, Hown.out, Hbel.out, .inl ⟨by omega, by omega, Hun.out, Hno2.out⟩⟩, by simp [intOf]; omega⟩
    · have Hun := Lib.hid hun
      clear hun
      have b1 : decide (((S.size + 1 : Nat) : Int) ≤ (S.size : Int)) = false := by simp; omega
      obtain ⟨A, c, e9, hsl⟩ := Hown.out.read leR_stays
      have Hsl := Lib.hid hsl
      cases e9
      clear hsl
      go_wp2
      refine bodyPost_ret (v := .tuple #[.slice A0 acc.length c0, .int .i64 0, .int .i64 0]) (by simp [results, Tryd.results10, go_sem]) rfl ?_
      rw [Hun.out]
      exact ⟨A0, c0, rfl, Hsl.out, Hbel.out⟩
end Go.Proofs.YtjidppcfjkjjoaaDoor
