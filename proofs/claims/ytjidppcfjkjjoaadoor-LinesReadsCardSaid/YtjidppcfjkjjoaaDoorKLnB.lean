/- LnB: Walks: the references' Dec, hexDigit. Walks: the references' hexDigit, actLine. Walk: the reference's ActsShown. Walks: the law's acts (a copy of a row of acts), sameActs. The law LinesShows: both answer what the plain words say; nothing that was there turns. The conditions of each are in its words. -/
import Derived.BigQuiet
import Derived.Deep.CutRange
import Derived.Lib.AppendStr
import Derived.Test.YtjidppcfjkjjoaaDoorKLnA
import Derived.Test.YtjidppcfjkjjoaaDoorKBase
namespace Go.Proofs.YtjidppcfjkjjoaaDoor
open Go.RowKit
set_option linter.unusedVariables false
set_option linter.unusedSimpArgs false

theorem bs_oneL {w : World} {g : Nat} {x : UInt8} (h : w.heap[g]? = some (.cells #[bv x] 5 (0, 0))) : Bs All w (some ⟨g, 0, none⟩) [x] := fun _ =>
  ⟨g, 0, rfl, trivial, (Array.getElem?_eq_some_iff.1 h).1, fun i hi => by
    simp at hi
    subst hi
    exact ⟨[bv x], rfl, fun j hj => by obtain rfl : j = 0 := by omega
                                       exact box_cell (cs := [bv x]) h 0, rfl⟩⟩
/-- string([]byte{..}) of one byte. -/
theorem conv_one (W : World) (x : UInt8) : (convert 32 9 (.slice (some ⟨W.heap.size, 0, none⟩) 1 1)).run Tryd.prog (W.alloc (.cells #[bv x] 5)) = .ok (.string ⟨#[x]⟩) (W.alloc (.cells #[bv x] 5)) :=
  conv_str (a := [x]) (bs_oneL (box_new W _ _)) 32 9 5 1 Tryd.underlying32 Tryd.underlying5 Tryd.underlying9
theorem conv_at {W : World} {g : Nat} {x : UInt8} (h : W.heap[g]? = some (.cells #[bv x] 5 (0, 0))) : (convert 32 9 (.slice (some ⟨g, 0, none⟩) 1 1)).run Tryd.prog W = .ok (.string ⟨#[x]⟩) W :=
  conv_str (a := [x]) (bs_oneL h) 32 9 5 1 Tryd.underlying32 Tryd.underlying5 Tryd.underlying9
theorem dig_num {n : Nat} (h : n < 10) : (48 + (n : Int)) = ((UInt8.ofNat (48 + n)).toNat : Int) := by
  rw [UInt8.toNat_ofNat']
  omega
set_option maxRecDepth 100000 in
set_option maxHeartbeats 2000000 in
theorem dec_ok (n : Nat) (hn : n ≤ 200000) : ∀ w : World, Calls Tryd.prog 25 #[.int .i64 n] w fun e w' => e = .returned (.string ⟨(Lib.decDigits n).toArray⟩) ∧ Below w.heap.size w w' := by
  induction n using Nat.strongRecOn with
  | ind n ih =>
    intro w
    by_cases h : n < 10
    · have b1 : decide ((n : Int) < 10) = true := by simp; omega
      have Hv := Lib.hid (show Lib.decDigits n = [UInt8.ofNat (48 + n)] by rw [Lib.decDigits, dif_pos h])
      have hu := dig_num h
      generalize UInt8.ofNat (48 + n) = d at *
      have hcv := conv_one w d
      rw [bv, ← hu] at hcv
      clear ih hu
      go_enter Tryd.func25, Tryd.ntmps25
      go_wp2
      go_ret
      rw [Hv.out]
      exact ⟨rfl, (Below.refl _ _).alloc (Nat.le_refl _) _⟩
    · have b1 : decide ((n : Int) < 10) = false := by simp; omega
      have Hv := Lib.hid (show Lib.decDigits n = Lib.decDigits (n / 10) ++ [UInt8.ofNat (48 + n % 10)] by rw [Lib.decDigits, dif_neg h])
      have hu : 48 + (n : Int) % 10 = ((UInt8.ofNat (48 + n % 10)).toNat : Int) := by rw [← dig_num (n := n % 10) (by omega)]; omega
      generalize UInt8.ofNat (48 + n % 10) = d at *
      have hcv := fun W => conv_one W d
      have hca := fun W g => conv_at (W := W) (g := g) (x := d)
      have hih := ih (n / 10) (by omega) (by omega)
      rw [show ((n / 10 : Nat) : Int) = (n : Int) / 10 by omega] at hih
      have Hih := Lib.hid hih
      clear hih
      simp only [bv, ← hu] at hcv hca
      have hdl : ¬ 9223372036854775807 < (Lib.decDigits (n / 10)).length + 1 := by have := digits_len (n / 10) (by omega); omega
      have f1 : IntKind.i64.wrap ((n : Int) / 10) = (n : Int) / 10 := by rw [IntKind.wrap_i64]; omega
      have f2 : (n : Int).tmod 10 = (n : Int) % 10 := Int.tmod_eq_emod_of_nonneg (by omega)
      have f3 : IntKind.i64.wrap (48 + (n : Int) % 10) = 48 + (n : Int) % 10 := by rw [IntKind.wrap_i64]; omega
      have f4 : IntKind.u8.wrap (48 + (n : Int) % 10) = 48 + (n : Int) % 10 := by rw [IntKind.wrap_u8]; omega
      have hcd := hca (w.alloc (.cells #[.int .u8 (48 + (n : Int) % 10)] 5)).drew w.heap.size (box_new w _ _)
      have Hca := Lib.hid hca
      clear hca
      clear ih hu
      go_enter Tryd.func25, Tryd.ntmps25
      go_wp2_with fail
      go_region_law (first
        | (go_simp; go_at_call 25; (with_reducible refine (Hih.out _).mono ?_); rintro e w2 ⟨rfl, hb2⟩; (try have hcv2 := Hca.out _ _ ((hb2.block w.heap.size (by first | (simp; done) | omega | (simp; omega))).trans (box_new w _ _)))))
      all_goals
        go_wp2
        go_ret
        rw [Hv.out]
        exact ⟨rfl, by first | exact ((Below.refl _ _).drew.next hb2 (by simp)).alloc (by have := hb2.size; simpa using this) _ | exact ((Below.refl _ _).alloc (Nat.le_refl _) _).drew.next hb2 (by simp)⟩
end Go.Proofs.YtjidppcfjkjjoaaDoor
namespace Go.Proofs.YtjidppcfjkjjoaaDoor
open Go.RowKit
set_option linter.unusedVariables false
set_option linter.unusedSimpArgs false

set_option maxRecDepth 100000 in
theorem hexDigit_ok (n : Nat) (hn : n < 16) (w : World) : Calls Tryd.prog 26 #[.int .i64 n] w fun e w' => e = .returned (.int .u8 ((hexD n).toNat : Int)) ∧ w = w' := by
  by_cases h : n < 10
  · have b1 : decide ((n : Int) < 10) = true := by simp; omega
    have Hv := Lib.hid (show (48 + (n : Int)) = ((hexD n).toNat : Int) by unfold hexD; rw [if_pos h, UInt8.toNat_ofNat']; omega)
    go_enter Tryd.func26, Tryd.ntmps26
    go_wp2
    go_ret
    exact ⟨by rw [← Hv.out]; rfl, rfl⟩
  · have b1 : decide ((n : Int) < 10) = false := by simp; omega
    have Hv := Lib.hid (show (97 + (n : Int) - 10) = ((hexD n).toNat : Int) by unfold hexD; rw [if_neg h, UInt8.toNat_ofNat']; omega)
    go_enter Tryd.func26, Tryd.ntmps26
    go_wp2
    go_ret
    exact ⟨by rw [← Hv.out]; rfl, rfl⟩
theorem hexDigit_int (n : Nat) (hn : n < 16) (m : Int) (hm : m = n) (w : World) : Calls Tryd.prog 26 #[.int .i64 m] w fun e w' => e = .returned (.int .u8 ((hexD n).toNat : Int)) ∧ w = w' := by
  rw [hm]
  exact hexDigit_ok n hn w
/-- A row of the call's own that holds the bytes l. -/
abbrev OwB (base : Nat) (w : World) (v : Value) (l : List UInt8) : Prop := w.ownsRow base 5 1 v l.length (l.map bv)
theorem owb_eq {B : Nat} {w : World} {v : Value} {l r : List UInt8} (h : OwB B w v l) (e : l = r) : OwB B w v r := e ▸ h
theorem owb_below {B : Nat} {w w' : World} {v : Value} {l : List UInt8} (h : OwB B w v l) (hb : Below w.heap.size w w') : OwB B w' v l := World.ownsRow_below h hb
theorem owb_alloc {B : Nat} {w : World} {v : Value} {l : List UInt8} (h : OwB B w v l) (o : Obj) : OwB B (w.alloc o) v l := owb_below h ((Below.refl _ _).alloc (Nat.le_refl _) _)
section
variable (w : World) {ops : Array Oper} {rest : List Oper} {o : Oper} {a : Act} {Q : Exit → Act → World → Prop}
theorem owb_str (hgd : o.guard = none) (sl x : Operand) (ho : o.op = .call { callee := .builtin .append, args := #[sl, x], argTypes := #[32, 9] })
    (base : Nat) (v : Value) (l : List UInt8) (hs : a.eval sl = v) (hown : OwB base w v l) (s : ByteArray) (hx : a.eval x = .string s) (hlim : l.length + s.data.toList.length ≤ 140737488355328) (hbase : base ≤ w.heap.size)
    (h : ∀ v' w', OwB base w' v' (l ++ s.data.toList) → Below base w w' → wpList Tryd.prog ops Q rest (a.put o.dst v') w') : wpList Tryd.prog ops Q (o :: rest) a w := by
  obtain ⟨i0, hi, hz0, hz1, hz2⟩ := info_parts info_u8
  have hsz : s.size = s.data.toList.length := (Array.length_toList).symm
  refine Lib.wpList_append_own_string w hgd sl x 32 9 ho base 5 i0 Tryd.underlying32 Tryd.underlying9 hi hz0 hz1 hz2 v l.length (l.map bv) hs hown s hx (by rw [hsz]; unfold maxLen; omega) (by rw [hsz]; omega) hbase fun v' w' h1 h2 _ => h v' w' ?_ (own_below hown h2 hbase)
  show w'.ownsRow base 5 1 v' (l ++ s.data.toList).length ((l ++ s.data.toList).map bv)
  rw [List.length_append, List.map_append, ← hsz]
  exact h1
theorem owb_bytes (hgd : o.guard = none) (sl x : Operand) (ho : o.op = .call { callee := .builtin .append, args := #[sl, x], argTypes := #[32, 32] })
    (base : Nat) (v : Value) (l : List UInt8) (hs : a.eval sl = v) (hown : OwB base w v l) (g c : Nat) (bs : List UInt8) (hx : a.eval x = .slice (some ⟨g, 0, none⟩) bs.length c) (hsrc : w.heap[g]? = some (.cells (bs.map bv).toArray 5 (0, 0))) (hlim : l.length + bs.length ≤ 140737488355328) (hbase : base ≤ w.heap.size)
    (h : ∀ v' w', OwB base w' v' (l ++ bs) → Below base w w' → wpList Tryd.prog ops Q rest (a.put o.dst v') w') : wpList Tryd.prog ops Q (o :: rest) a w := by
  obtain ⟨i0, hi, hz0, hz1, hz2⟩ := info_parts info_u8
  refine wpl_app w hgd sl x 32 ho base 5 i0 (.int .u8 0) 1 1 Tryd.underlying32 hi hz0 hz1 hz2 rfl (by decide) v l.length (l.map bv) hs hown (some ⟨g, 0, none⟩) bs.length c (bs.map bv) hx (by simp) (fun _ => ⟨_, rfl, World.news_of_block (cs := (bs.map bv).toArray) (t := 5) (fr := (0, 0)) hsrc⟩) (bv_one bs) (by unfold maxLen; omega) (by omega) hbase fun v' w' h1 h2 _ => h v' w' ?_ (own_below hown h2 hbase)
  show w'.ownsRow base 5 1 v' (l ++ bs).length ((l ++ bs).map bv)
  rw [List.length_append, List.map_append]
  exact h1
theorem owb_step {K : Act → World → Prop} {E : Prop} (hgd : o.guard = none) (sl x : Operand) (ho : o.op = .call { callee := .builtin .append, args := #[sl, x], argTypes := #[32, 32] })
    (base : Nat) (v : Value) (l : List UInt8) (hs : a.eval sl = v) (hown : OwB base w v l) (g c : Nat) (bs : List UInt8) (hx : a.eval x = .slice (some ⟨g, 0, none⟩) bs.length c) (hsrc : w.heap[g]? = some (.cells (bs.map bv).toArray 5 (0, 0))) (hlim : l.length + bs.length ≤ 140737488355328) (hbase : base ≤ w.heap.size)
    (h : ∀ v' w', OwB base w' v' (l ++ bs) → Below base w w' → K (a.put o.dst v') w') : if Region.wanted o (yielded ops a.tmps) = true then Oper.wp Tryd.prog o a w K Q else E := by
  have hw : Region.wanted o (yielded ops a.tmps) = true := by simp [Region.wanted, hgd]
  rw [if_pos hw]
  obtain ⟨i0, hi, hz0, hz1, hz2⟩ := info_parts info_u8
  refine wp_app w sl x 32 ho base 5 i0 (.int .u8 0) 1 1 Tryd.underlying32 hi hz0 hz1 hz2 rfl (by decide) v l.length (l.map bv) hs hown (some ⟨g, 0, none⟩) bs.length c (bs.map bv) hx (by simp) (fun _ => ⟨_, rfl, World.news_of_block (cs := (bs.map bv).toArray) (t := 5) (fr := (0, 0)) hsrc⟩) (bv_one bs) (by unfold maxLen; omega) (by omega) hbase fun v' w' h1 h2 _ => h v' w' ?_ (own_below hown h2 hbase)
  show w'.ownsRow base 5 1 v' (l ++ bs).length ((l ++ bs).map bv)
  rw [List.length_append, List.map_append]
  exact h1
end
theorem ret_owb {B : Nat} {w w' : World} {v : Value} {l : List UInt8} (h : OwB B w' v l) (hb : Below w.heap.size w w') (hB : w.heap.size ≤ B) : RetBs w l (.returned v) w' := by
  rcases h.2 with ⟨rfl, h0⟩ | ⟨g, cap, cur, rfl, _⟩
  · have hl := List.eq_nil_of_length_eq_zero h0
    subst hl
    exact ⟨none, 0, rfl, SL.nil, hb⟩
  · exact ⟨_, _, rfl, (SL.bof_own h).2.blo hB, hb⟩
set_option maxRecDepth 100000 in
set_option maxHeartbeats 2000000 in
theorem actLine_ok (w : World) (a : Le) (D : Option Addr) (n : Nat) (h0 : lnFault a = 0) (hD : Bs All w D a.data) :
    Calls Tryd.prog 17 #[.agg #[.int .i64 a.kind, .int .i64 a.session, .int .i64 a.keep, .slice D a.data.length n]] w (RetBs w (lnBody a)) := by
  have hb1 := (Below.refl w.heap.size w).alloc (Nat.le_refl _) (.cells #[.int .i64 a.kind, .int .i64 a.session, .int .i64 a.keep, .slice D a.data.length n] 34)
  have hx1 := box_new w #[.int .i64 a.kind, .int .i64 a.session, .int .i64 a.keep, .slice D a.data.length n] 34
  have hsz : (w.alloc (.cells #[.int .i64 a.kind, .int .i64 a.session, .int .i64 a.keep, .slice D a.data.length n] 34)).heap.size = w.heap.size + 1 := by simp
  have HD := Lib.hid hD
  clear hD
  go_enter Tryd.func17, Tryd.ntmps17
  go_upto_region 2 with fail
  obtain ⟨w1, hw1e⟩ : ∃ w1, w1 = w.alloc (.cells #[.int .i64 a.kind, .int .i64 a.session, .int .i64 a.keep, .slice D a.data.length n] 34) := ⟨_, rfl⟩
  rw [← hw1e] at hb1 hx1 hsz ⊢
  obtain ⟨g, hge⟩ : ∃ g, g = w.heap.size := ⟨_, rfl⟩
  rw [← hge] at hx1 ⊢
  obtain ⟨B, hBe⟩ : ∃ B, B = w.heap.size + 1 := ⟨_, rfl⟩
  have hgb : g < B := by omega
  have hwb : w.heap.size ≤ B := by omega
  have hB1 : B ≤ w1.heap.size := by omega
  have hg1 : g < w1.heap.size := by omega
  have hw1 : Below B w1 w1 := Below.refl _ _
  have Ho1 := Lib.hid (show OwB B w1 (.slice none 0 0) [] from World.ownsRow_nil _ _ _ _)
  have Hb := Lib.hid hb1
  have Hx := Lib.hid hx1
  obtain ⟨z0, z1, z2, z3, _⟩ := box4L hx1
  clear hw1e hge hBe hb1 hx1 hsz
  rcases ln_kind h0 with ⟨h1, h2, h3, h4⟩ | h1 | ⟨h1, h2, h3⟩ | h1
  · have Hv := Lib.hid (show lnBody a = [97, 115, 107, 32] ++ Lib.decDigits a.session.toNat ++ [32] ++ hexS a.data by unfold lnBody; rw [if_pos h1])
    rw [h1] at z0 Hx
    have hd := digits_len a.session.toNat (by omega)
    have hdec := dec_ok a.session.toNat (by omega)
    rw [Int.toNat_of_nonneg h2] at hdec
    have HDec := Lib.hid hdec
    clear h1 h0 hdec
    go_upto_region 5 with (at_builtin; refine owb_str _ rfl _ _ rfl B _ ([]) rfl Ho1.out _ rfl ?hl ?hb ?_; (case hl => (simp)); (case hb => (have := hw1.size; omega)); intro v2 w2 ho2 hv2; have Ho2 := Lib.hid (owb_eq (r := [97, 115, 107, 32]) ho2 (by simp)); have hw2 : Below B w1 w2 := hw1.trans hv2; clear ho2 hv2; obtain ⟨z0, z1, z2, z3, _⟩ := box4L ((hw2.block g hgb).trans Hx.out); have hg2 : g < w2.heap.size := (by have := hw2.size; omega))
    go_upto_region 6 with (first
      | (go_at_call 25; (with_reducible refine (HDec.out _).mono ?_); rintro e w3 ⟨rfl, hv3⟩; have Ho3 := Lib.hid (owb_below Ho2.out hv3); have hw3 : Below B w1 w3 := hw2.trans (hv3.mono (by have := hw2.size; omega)); clear hv3; obtain ⟨z0, z1, z2, z3, _⟩ := box4L ((hw3.block g hgb).trans Hx.out); have hg3 : g < w3.heap.size := (by have := hw3.size; omega))
      | (at_builtin; refine owb_str _ rfl _ _ rfl B _ ([97, 115, 107, 32]) rfl Ho3.out _ rfl ?hl ?hb ?_; (case hl => (simp; omega)); (case hb => (have := hw3.size; omega)); intro v4 w4 ho4 hv4; have Ho4 := Lib.hid (owb_eq (r := [97, 115, 107, 32] ++ Lib.decDigits a.session.toNat) ho4 (by simp)); have hw4 : Below B w1 w4 := hw3.trans hv4; clear ho4 hv4; obtain ⟨z0, z1, z2, z3, _⟩ := box4L ((hw4.block g hgb).trans Hx.out); have hg4 : g < w4.heap.size := (by have := hw4.size; omega)))
    go_upto_region 7 with (at_builtin; refine owb_bytes _ rfl _ _ rfl B _ ([97, 115, 107, 32] ++ Lib.decDigits a.session.toNat) rfl (owb_alloc Ho4.out _) _ _ [32] rfl (box_new _ _ _) ?hl ?hb ?_; (case hl => (simp; omega)); (case hb => (have := hw4.size; simp; omega)); intro v5 w5 ho5 hv5; have Ho5 := Lib.hid (owb_eq (r := [97, 115, 107, 32] ++ Lib.decDigits a.session.toNat ++ [32]) ho5 (by simp)); have hw5 : Below B w1 w5 := (hw4.alloc (by have := hw4.size; omega) _).trans hv5; clear ho5 hv5; obtain ⟨z0, z1, z2, z3, _⟩ := box4L ((hw5.block g hgb).trans Hx.out); have hg5 : g < w5.heap.size := (by have := hw5.size; omega))
    go_wp2
    go_loopw [3, 4] (fun v i wr => ∃ k : Nat, k ≤ a.data.length ∧ i = .int .i64 k ∧ OwB B wr v ([97, 115, 107, 32] ++ Lib.decDigits a.session.toNat ++ [32] ++ hexS (a.data.take k)) ∧ Below B w1 wr) (fun _ i _ => a.data.length - (intOf i).toNat)
    case atStart => exact ⟨0, Nat.zero_le _, rfl, owb_eq Ho5.out (by simp [hexS]), hw5⟩
    case round =>
      clear z0 z1 z2 z3
      obtain ⟨k, hk, rfl, ho6, hw6⟩ := hrel
      have Ho6 := Lib.hid ho6
      obtain ⟨z0, z1, z2, z3, _⟩ := box4L ((hw6.block g hgb).trans Hx.out)
      have hg6 : g < wr.heap.size := by have := hw6.size; omega
      clear ho6
      by_cases hlt : k < a.data.length
      · obtain ⟨db, dof, hX, _, hdl, hdc⟩ := (HD.out.bbelow (Hb.out.trans (hw6.mono hwb))).bat hlt
        obtain ⟨db', dof', hX', _, hdl', hdc'⟩ := HD.out.bat hlt
        rw [hX] at hX'
        injection hX' with hX'
        injection hX' with hX1 hX2 _
        subst hX1 hX2
        subst hX
        have HDc := Lib.hid (fun W (h : Below B w1 W) => ((Hb.out.trans (h.mono hwb)).cell (p := ⟨db, dof + k, none⟩) hdl').trans hdc')
        clear hdc'
        have Hsn := Lib.hid (hexS_next hlt)
        generalize a.data[k] = c at *
        have hi0 : (0 : Int) ≤ (k : Int) := by omega
        have hi1 : (k : Int) < (a.data.length : Int) := by omega
        have hc := c.toNat_lt
        have f0 : IntKind.i64.wrap (c.toNat : Int) = (c.toNat : Int) := by rw [IntKind.wrap_i64]; omega
        have f1 : IntKind.i64.wrap ((IntKind.i64.wrap (c.toNat : Int)).tdiv 16) = ((c.toNat / 16 : Nat) : Int) := by rw [f0, Int.tdiv_eq_ediv_of_nonneg (by omega), IntKind.wrap_i64]; omega
        have f2 : (IntKind.i64.wrap (c.toNat : Int)).tmod 16 = ((c.toNat % 16 : Nat) : Int) := by rw [f0, Int.tmod_eq_emod_of_nonneg (by omega)]; omega
        have Hh1 := Lib.hid (fun w => hexDigit_int (c.toNat / 16) (by omega) _ f1 w)
        have Hh2 := Lib.hid (fun w => hexDigit_int (c.toNat % 16) (by omega) _ f2 w)
        clear f0 f1 f2
        go_wp2_with fail
        have z3' := z3
        have hdc' := hdc
        go_region_held3 (fun w' => w'.cell? ⟨g, 3, none⟩ = some (.slice (some ⟨db, dof, none⟩) a.data.length n) ∧ w'.cell? ⟨db, dof + k, none⟩ = some (.int .u8 (c.toNat : Int)))
          (first | go_keep | exact ⟨z3', hdc'⟩)
          (first
            | (go_at_call 26; (with_reducible refine (Hh1.out _).mono ?_); rintro e w7 ⟨rfl, rfl⟩)
            | (go_at_call 26; (with_reducible refine (Hh2.out _).mono ?_); rintro e w7 ⟨rfl, rfl⟩)
            | (refine owb_step _ rfl (.tmp 26) (.tmp 43) rfl B u3 ([97, 115, 107, 32] ++ Lib.decDigits a.session.toNat ++ [32] ++ hexS (a.data.take k)) ?hs ?own wr.heap.size 2 [hexD (c.toNat / 16), hexD (c.toNat % 16)] ?hx ?hsrc ?hl ?hb ?_; (case hsrc => exact box_new _ _ _); (case hs => (simp [Act.eval, Act.put])); (case own => exact owb_below Ho6.out ((Below.refl _ _).drew.alloc (by simp) _)); (case hx => (simp [Act.eval, Act.put])); (case hl => (simp [hexS_len]; omega)); (case hb => (have := hw6.size; simp; omega)); intro v8 w8 ho8 hv8; have Ho8 := Lib.hid ho8; have hw8 : Below B w1 w8 := ((hw6.drew.alloc (by have := hw6.size; simp; omega) _)).trans hv8; clear ho8 hv8; obtain ⟨y0, y1, y2, z3', _⟩ := box4L ((hw8.block g hgb).trans Hx.out); have hdc' := HDc.out w8 hw8))
        all_goals
          go_wp2
          go_roundw
          case rel => exact ⟨k + 1, by omega, by go_num, owb_eq Ho8.out (by rw [Hsn.out]; simp), hw8⟩
          case measure => simp [intOf]; omega
      · obtain rfl : k = a.data.length := by omega
        have Ho7 := Lib.hid (owb_eq Ho6.out (by rw [List.take_length]))
        clear Ho6
        go_wp2
        go_ret
        rw [Hv.out]
        exact ret_owb Ho7.out (Hb.out.trans (hw6.mono hwb)) (by omega)
  · have Hv := Lib.hid (show lnBody a = [115, 121, 110, 99] by unfold lnBody; rw [if_neg (by omega), if_pos h1])
    rw [h1] at z0 Hx
    clear h1 h0
    go_wp2_with (at_builtin; refine owb_str _ rfl _ _ rfl B _ ([]) rfl Ho1.out _ rfl ?hl ?hb ?_; (case hl => (simp)); (case hb => (have := hw1.size; omega)); intro v2 w2 ho2 hv2; have Ho2 := Lib.hid (owb_eq (r := [115, 121, 110, 99]) ho2 (by simp)); have hw2 : Below B w1 w2 := hw1.trans hv2; clear ho2 hv2; obtain ⟨z0, z1, z2, z3, _⟩ := box4L ((hw2.block g hgb).trans Hx.out); have hg2 : g < w2.heap.size := (by have := hw2.size; omega))
    go_ret
    rw [Hv.out]
    exact ret_owb Ho2.out (Hb.out.trans (hw2.mono hwb)) (by omega)
  · have Hv := Lib.hid (show lnBody a = [99, 114, 97, 115, 104, 32] ++ Lib.decDigits a.keep.toNat by unfold lnBody; rw [if_neg (by omega), if_neg (by omega), if_pos h1])
    rw [h1] at z0 Hx
    have hd := digits_len a.keep.toNat (by omega)
    have hdec := dec_ok a.keep.toNat (by omega)
    rw [Int.toNat_of_nonneg h2] at hdec
    have HDec := Lib.hid hdec
    clear h1 h0 hdec
    go_upto_region 15 with (at_builtin; refine owb_str _ rfl _ _ rfl B _ ([]) rfl Ho1.out _ rfl ?hl ?hb ?_; (case hl => (simp)); (case hb => (have := hw1.size; omega)); intro v2 w2 ho2 hv2; have Ho2 := Lib.hid (owb_eq (r := [99, 114, 97, 115, 104, 32]) ho2 (by simp)); have hw2 : Below B w1 w2 := hw1.trans hv2; clear ho2 hv2; obtain ⟨z0, z1, z2, z3, _⟩ := box4L ((hw2.block g hgb).trans Hx.out); have hg2 : g < w2.heap.size := (by have := hw2.size; omega))
    go_wp2_with (first
      | (go_at_call 25; (with_reducible refine (HDec.out _).mono ?_); rintro e w3 ⟨rfl, hv3⟩; have Ho3 := Lib.hid (owb_below Ho2.out hv3); have hw3 : Below B w1 w3 := hw2.trans (hv3.mono (by have := hw2.size; omega)); clear hv3; obtain ⟨z0, z1, z2, z3, _⟩ := box4L ((hw3.block g hgb).trans Hx.out); have hg3 : g < w3.heap.size := (by have := hw3.size; omega))
      | (at_builtin; refine owb_str _ rfl _ _ rfl B _ ([99, 114, 97, 115, 104, 32]) rfl Ho3.out _ rfl ?hl ?hb ?_; (case hl => (simp; omega)); (case hb => (have := hw3.size; omega)); intro v4 w4 ho4 hv4; have Ho4 := Lib.hid (owb_eq (r := [99, 114, 97, 115, 104, 32] ++ Lib.decDigits a.keep.toNat) ho4 (by simp)); have hw4 : Below B w1 w4 := hw3.trans hv4; clear ho4 hv4; obtain ⟨z0, z1, z2, z3, _⟩ := box4L ((hw4.block g hgb).trans Hx.out); have hg4 : g < w4.heap.size := (by have := hw4.size; omega)))
    go_ret
    rw [Hv.out]
    exact ret_owb Ho4.out (Hb.out.trans (hw4.mono hwb)) (by omega)
  · have Hv := Lib.hid (show lnBody a = [115, 116, 97, 114, 116] by unfold lnBody; simp [h1])
    rw [h1] at z0 Hx
    clear h1 h0
    go_wp2_with (at_builtin; refine owb_str _ rfl _ _ rfl B _ ([]) rfl Ho1.out _ rfl ?hl ?hb ?_; (case hl => (simp)); (case hb => (have := hw1.size; omega)); intro v2 w2 ho2 hv2; have Ho2 := Lib.hid (owb_eq (r := [115, 116, 97, 114, 116]) ho2 (by simp)); have hw2 : Below B w1 w2 := hw1.trans hv2; clear ho2 hv2; obtain ⟨z0, z1, z2, z3, _⟩ := box4L ((hw2.block g hgb).trans Hx.out); have hg2 : g < w2.heap.size := (by have := hw2.size; omega))
    go_ret
    rw [Hv.out]
    exact ret_owb Ho2.out (Hb.out.trans (hw2.mono hwb)) (by omega)
end Go.Proofs.YtjidppcfjkjjoaaDoor
namespace Go.Proofs.YtjidppcfjkjjoaaDoor
open Go.RowKit
set_option linter.unusedVariables false
set_option linter.unusedSimpArgs false

theorem owb_slice (w : World) {ops : Array Oper} {rest : List Oper} {o : Oper} {a : Act} {Q : Exit → Act → World → Prop} (hgd : o.guard = none) (sl x : Operand) (ho : o.op = .call { callee := .builtin .append, args := #[sl, x], argTypes := #[32, 32] })
    (base : Nat) (v : Value) (l : List UInt8) (hs : a.eval sl = v) (hown : OwB base w v l) (A : Option Addr) (c : Nat) (p : List UInt8) (hx : a.eval x = .slice A p.length c) (hp : Bs All w A p) (hlim : l.length + p.length ≤ 140737488355328) (hbase : base ≤ w.heap.size)
    (h : ∀ v' w', OwB base w' v' (l ++ p) → Below base w w' → wpList Tryd.prog ops Q rest (a.put o.dst v') w') : wpList Tryd.prog ops Q (o :: rest) a w := by
  obtain ⟨i0, hi, hz0, hz1, hz2⟩ := info_parts info_u8
  refine wpl_app w hgd sl x 32 ho base 5 i0 (.int .u8 0) 1 1 Tryd.underlying32 hi hz0 hz1 hz2 rfl (by decide) v l.length (l.map bv) hs hown A p.length c (p.map bv) hx (by simp) (SL.bsrc hp) (bv_one p) (by unfold maxLen; omega) (by omega) hbase fun v' w' h1 h2 _ => h v' w' ?_ (own_below hown h2 hbase)
  show w'.ownsRow base 5 1 v' (l ++ p).length ((l ++ p).map bv)
  rw [List.length_append, List.map_append]
  exact h1
theorem owb_bs {B : Nat} {w : World} {v : Value} {l : List UInt8} (h : OwB B w v l) : ∃ A c, v = .slice A l.length c ∧ Bs All w A l := by
  obtain ⟨A, c, e, hs, _⟩ := ret_owb (w := { w with heap := #[] }) h ⟨rfl, rfl, rfl, Nat.zero_le _, fun k hk => absurd hk (Nat.not_lt_zero _)⟩ (Nat.zero_le _)
  injection e with e
  exact ⟨A, c, e, hs.bz⟩
set_option maxRecDepth 100000 in
set_option maxHeartbeats 2000000 in
theorem actsShown_ok (w : World) (A : Option Addr) (l : List Le) (c : Nat) (hA : Les All w A l) :
    Calls Tryd.prog 7 #[.slice A l.length c] w (RetShow w (showS l)) := by
  by_cases hL : 100000 < l.length
  · have Hv := Lib.hid (show showS l = ([], 0, 1) by unfold showS; rw [if_pos hL])
    have b1 : decide ((100000 : Int) < (l.length : Int)) = true := by simp; omega
    clear hL
    go_enter Tryd.func7, Tryd.ntmps7
    go_wp2
    go_ret3
    rw [Hv.out]
    exact ⟨rfl, Below.refl _ _⟩
  · have Hv := Lib.hid (show showS l = showFrom l 0 [] by unfold showS; rw [if_neg hL])
    have b1 : decide ((100000 : Int) < (l.length : Int)) = false := by simp; omega
    have HA := Lib.hid hA
    have hL' : l.length ≤ 100000 := by omega
    clear hA hL
    go_enter Tryd.func7, Tryd.ntmps7
    go_wp2
    go_loopw [5, 6] (fun v i wr => ∃ (k : Nat) (acc : List UInt8), k ≤ l.length ∧ i = .int .i64 k ∧ OwB w.heap.size wr v acc ∧ showFrom (l.drop k) k acc = showFrom l 0 [] ∧ acc.length ≤ 8021 * k ∧ Below w.heap.size w wr) (fun _ i _ => l.length - (intOf i).toNat)
    case atStart => exact ⟨0, [], Nat.zero_le _, rfl, World.ownsRow_nil _ _ _ _, rfl, Nat.zero_le _, Below.refl _ _⟩
    case round =>
      obtain ⟨k, acc, hk, rfl, ho, hsh, hal, hbel⟩ := hrel
      have Ho := Lib.hid ho
      have Hsh := Lib.hid hsh
      have Hbel := Lib.hid hbel
      have hbz := hbel.size
      clear ho hsh hbel
      by_cases hlt : k < l.length
      · obtain ⟨g, off, D, d, hX, _, hgl, hc0, hc1, hc2, hc3, hd, hdl⟩ := les_at (HA.out.below leR_stays Hbel.out) hlt
        subst hX
        have Hd := Lib.hid hd
        have Hat := Lib.hid (show_at (acc := acc) hlt)
        generalize l[k] = a at *
        have hi0 : (0 : Int) ≤ (k : Int) := by omega
        have hi1 : (k : Int) < (l.length : Int) := by omega
        clear hd
        by_cases hf : lnFault a = 0
        · have Hf := Lib.hid hf
          have hat := Hat.out
          rw [if_neg (by simpa using hf), Hsh.out] at hat
          have Hat2 := Lib.hid hat
          have hlen := lnBody_len hf
          clear hat hf
          go_upto_region 11 with (first
            | (go_at_call 16; (refine (actFault_ok _ a.kind a.session a.keep D a.data.length d).mono ?_); rw [show actFaultS a.kind a.session a.keep a.data.length = 0 from Hf.out]; rintro e w2 ⟨rfl, hv2⟩; have hz2 := hv2.size; have Ho2 := Lib.hid (owb_below Ho.out hv2); have hgl2 : g < w2.heap.size := (by omega); replace hc0 := (hv2.cell (p := ⟨g, off + k * 4, none⟩) hgl).trans hc0; replace hc1 := (hv2.cell (p := ⟨g, off + k * 4 + 1, none⟩) hgl).trans hc1; replace hc2 := (hv2.cell (p := ⟨g, off + k * 4 + 2, none⟩) hgl).trans hc2; replace hc3 := (hv2.cell (p := ⟨g, off + k * 4 + 3, none⟩) hgl).trans hc3; have Hv2 := Lib.hid hv2; clear hv2)
            | (go_at_call 17; (refine (actLine_ok _ a D d Hf.out (Hd.out.bbelow Hv2.out)).mono ?_); rintro e w3 ⟨A3, c3, rfl, hs3, hv3⟩; have hz3 := hv3.size; have Ho3 := Lib.hid (owb_below Ho2.out hv3); have Hs3 := Lib.hid hs3.bz; have Hv3 := Lib.hid (Hv2.out.trans (hv3.mono hz2)); clear hs3 hv3)
            | (at_builtin; refine owb_slice _ rfl _ _ rfl w.heap.size _ acc rfl Ho3.out A3 c3 (lnBody a) rfl Hs3.out ?hl ?hb ?_; (case hl => omega); (case hb => omega); intro v4 w4 ho4 hv4; have Ho4 := Lib.hid ho4; have hz4 := hv4.size; clear ho4))
          go_wp2_with (at_builtin; refine owb_bytes _ rfl _ _ rfl w.heap.size _ (acc ++ lnBody a) rfl (owb_alloc Ho4.out _) _ _ [10] rfl (box_new _ _ _) ?hl ?hb ?_; (case hl => (simp; omega)); (case hb => (simp; omega)); intro v5 w5 ho5 hv5; have Ho5 := Lib.hid ho5; clear ho5)
          go_roundw
          case rel => exact ⟨k + 1, acc ++ lnS a, by omega, by go_num, owb_eq Ho5.out (by simp [lnS]), Hat2.out.symm, by simp [lnS]; omega, (((Hbel.out.trans (Hv3.out.mono hbz)).trans hv4).alloc (by have := hbz; omega) _).trans hv5⟩
          case measure => simp [intOf]; omega
        · have hat := Hat.out
          rw [if_pos hf, Hsh.out] at hat
          have Hat2 := Lib.hid hat
          have b2 : (actFaultS a.kind a.session a.keep a.data.length != 0) = true := by simpa [lnFault] using hf
          clear hat hf
          go_wp2_with (go_at_call 16; (refine (actFault_ok _ a.kind a.session a.keep D a.data.length d).mono ?_); rintro e w2 ⟨rfl, hv2⟩)
          go_ret3
          rw [Hv.out, Hat2.out]
          exact ⟨rfl, Hbel.out.trans (hv2.mono hbz)⟩
      · have hend := show_end (acc := acc) hlt
        rw [Hsh.out] at hend
        have Hend := Lib.hid hend
        obtain ⟨A2, c2, rfl, hs2⟩ := owb_bs Ho.out
        have h1 := conv_str hs2 32 9 5 c2 Tryd.underlying32 Tryd.underlying5 Tryd.underlying9
        clear hend hs2
        go_wp2
        go_ret3
        rw [Hv.out, Hend.out]
        exact ⟨rfl, Hbel.out⟩
end Go.Proofs.YtjidppcfjkjjoaaDoor
namespace Go.Proofs.YtjidppcfjkjjoaaDoor
open Go.RowKit
set_option linter.unusedVariables false
set_option linter.unusedSimpArgs false

theorem quiet_leftL {P : Program} {f : FuncId} {args : Array Value} {w : World} {n : Nat} {v : Value}
    (h : Calls P f args (w.drewN n) fun e w' => e = .returned v ∧ w.drewN n = w') : Calls P f args (w.drewN n) fun e w' => e = .returned v ∧ ∃ m, w' = w.drewN (n + m) := h.mono fun e w' ⟨h1, h2⟩ => ⟨h1, 0, h2.symm⟩
theorem own_keepL {α : Type} {size : Nat} {R : (Nat → Prop) → World → List Value → α → Prop} {n : Nat} {w w' : World} {base : Nat} {e : TypeId} {v : Value} {l : List α} (hR : Stays R) (h : Own size R (From base) w base e v l) (hn : w.heap.size ≤ n) (hb : Below w.heap.size w w') : Own size R (From base) w' base e v l := by
  obtain ⟨xs, h1, h2⟩ := h
  refine ⟨xs, ⟨h1.1, ?_⟩, fun i hi => hR.same _ _ _ _ _ ⟨hb.size, fun k _ hk' => hb.block k hk'⟩ (h2 i hi)⟩
  rcases h1.2 with hn | ⟨g, cap, cur, hv, hb', hh, rest⟩
  · exact .inl hn
  · exact .inr ⟨g, cap, cur, hv, hb', by rw [hb.block g (Array.getElem?_eq_some_iff.1 hh).1]; exact hh, rest⟩
/-- The call returns acts in a row of its own. -/
def RetLns (w : World) (l : List Le) (e : Ending) (w' : World) : Prop := ∃ A c, e = .returned (.slice A l.length c) ∧ Les (From w.heap.size) w' A l ∧ Below w.heap.size w w'
set_option maxRecDepth 100000 in
set_option maxHeartbeats 2000000 in
theorem acts_ok (w : World) (A : Option Addr) (l : List Le) (c : Nat) (ha : Les All w A l) (hn : l.length * 48 ≤ 140737488355328) :
    Calls Tryd.prog 5 #[.slice A l.length c] w (RetLns w l) := by
  obtain ⟨i0, hi0, hz0, hz1, hz2⟩ := info_parts info_ln
  have Ha := Lib.hid ha
  clear ha
  go_enter Tryd.func5, Tryd.ntmps5
  go_wp2
  go_loopw [3, 4] (fun v i wr => ∃ k : Nat, k ≤ l.length ∧ i = .int .i64 k ∧ Own 4 LeR (From w.heap.size) wr w.heap.size 34 v (l.take k) ∧ Below w.heap.size w wr) (fun _ i _ => l.length - (intOf i).toNat)
  case atStart => exact ⟨0, by omega, rfl, Own.nil _ _ _, Below.refl _ _⟩
  case round =>
    obtain ⟨k, hk, rfl, hown, hbel⟩ := hrel
    have Hbel := Lib.hid hbel
    have Hown := Lib.hid hown
    have hbz := hbel.size
    clear hown hbel
    by_cases hlt : k < l.length
    · obtain ⟨g, off, D, d, hX, _, hgl, hc0, hc1, hc2, hc3, hd, hdl⟩ := les_at (Ha.out.below leR_stays Hbel.out) hlt
      subst hX
      have Hsn := Lib.hid (take_snoc l k hlt)
      have Hlt := Lib.hid hlt
      have hL8 : (l.take k).length = k := by rw [List.length_take]; omega
      have HL := Lib.hid (show (l.take k).length + 1 ≤ maxLen ∧ ((l.take k).length + 1) * 48 ≤ 140737488355328 from by rw [hL8]; exact ⟨by simp only [maxLen]; omega, by omega⟩)
      generalize l[k] = x at *
      generalize l.take k = L at *
      have hi0' : (0 : Int) ≤ (k : Int) := by omega
      have hi1 : (k : Int) < (l.length : Int) := by omega
      have hwg := (Below.refl wr.heap.size wr).alloc (Nat.le_refl _) (.cells #[.int .i64 x.kind, .int .i64 x.session, .int .i64 x.keep, .slice D x.data.length d] 34)
      have hbg := box_new wr #[.int .i64 x.kind, .int .i64 x.session, .int .i64 x.keep, .slice D x.data.length d] 34
      have Hd := Lib.hid (hd.bbelow hwg)
      clear hL8 hd
      go_upto_region 6 with fail
      obtain ⟨wg, hwge⟩ : ∃ wg, wg = wr.alloc (.cells #[.int .i64 x.kind, .int .i64 x.session, .int .i64 x.keep, .slice D x.data.length d] 34) := ⟨_, rfl⟩
      rw [← hwge] at hwg hbg Hd ⊢
      obtain ⟨gb, hgbe⟩ : ∃ gb, gb = wr.heap.size := ⟨_, rfl⟩
      have hgw : wr.heap.size ≤ gb := by omega
      rw [← hgbe] at hbg ⊢
      have hgbl := (Array.getElem?_eq_some_iff.1 hbg).1
      obtain ⟨z0, z1, z2, z3, y0, y1, y2, y3⟩ := box4L hbg
      have Hbg := Lib.hid hbg
      have Hwg := Lib.hid hwg
      have hzg := hwg.size
      clear hwge hgbe hwg hbg hc0 hc1 hc2 hc3
      go_upto_region 7 with (go_at_call 11; (with_reducible refine (octets_ok _ D x.data d Hd.out hdl).mono ?_); rintro e w4 ⟨A4, c4, rfl, hs4, hv4⟩; have hz4 := hv4.size; have hg4 : gb < w4.heap.size := (by omega); have Hb4 := Lib.hid ((hv4.block gb hgbl).trans Hbg.out); obtain ⟨z0, z1, z2, z3, y0, y1, y2, y3⟩ := box4L Hb4.out; have Hv4 := Lib.hid hv4; have Hs4 := Lib.hid hs4; clear hv4 hs4)
      have hW : (w4.setCell ⟨gb, 3, none⟩ (.slice A4 x.data.length c4)).heap[gb]? = some (.cells #[.int .i64 x.kind, .int .i64 x.session, .int .i64 x.keep, .slice A4 x.data.length c4] 34 (0, 0)) := by
        rw [heap_setCell_same _ _ _ _ _ _ Hb4.out]
        rfl
      have hB : Below wr.heap.size wr (w4.setCell ⟨gb, 3, none⟩ (.slice A4 x.data.length c4)) := (Hwg.out.trans (Hv4.out.mono hzg)).setCell (p := ⟨gb, 3, none⟩) hgw _
      have hS : Bs (From wg.heap.size) (w4.setCell ⟨gb, 3, none⟩ (.slice A4 x.data.length c4)) A4 x.data := Hs4.out.bsame ((Same.refl _ _).setCell (p := ⟨gb, 3, none⟩) (fun h => Nat.not_le_of_lt hgbl h) _)
      generalize w4.setCell ⟨gb, 3, none⟩ (.slice A4 x.data.length c4) = WF at *
      clear z0 z1 z2 z3 y0 y1 y2 y3
      obtain ⟨z0, z1, z2, z3, _⟩ := box4L hW
      have hgF := (Array.getElem?_eq_some_iff.1 hW).1
      have HownF := Lib.hid (own_keepL leR_stays Hown.out (Nat.le_refl _) hB)
      have HF := Lib.hid (Hbel.out.trans (hB.mono hbz))
      have HdF := Lib.hid (show ∀ W, Below WF.heap.size WF W → LeR (fun b => From w.heap.size b ∧ u3.ownBlock ≠ some b) W [.int .i64 x.kind, .int .i64 x.session, .int .i64 x.keep, .slice A4 x.data.length c4] x from fun W h => ⟨A4, c4, rfl, (hS.bbelow h).bless (fun b _ h => ⟨show w.heap.size ≤ b by have h' : wg.heap.size ≤ b := h; omega, Hown.out.apart _ (Nat.le_refl _) b (show wr.heap.size ≤ b by have h' : wg.heap.size ≤ b := h; omega)⟩), hdl⟩)
      clear hW hB hS
      go_wp2_with (at_builtin; refine wpl_snoc leR_stays (S := From w.heap.size) _ rfl _ _ _ rfl w.heap.size 34 i0 _ 4 48 Tryd.underlying22 hi0 hz0 hz1 hz2 rfl (by decide) _ L rfl ?hown _ _ [.int .i64 x.kind, .int .i64 x.session, .int .i64 x.keep, .slice A4 x.data.length c4] rfl rfl (new_src _ _ [.int .i64 x.kind, .int .i64 x.session, .int .i64 x.keep, .slice A4 x.data.length c4] _ (by simp)) (by simp [Value.oneCell']) ?hm ?hby ?hba x ?hd ?_; (case hown => exact HownF.out.below leR_stays ((Below.refl _ _).alloc (Nat.le_refl _) _)); (case hm => exact HL.out.1); (case hby => exact HL.out.2); (case hba => exact (HF.out.alloc HF.out.size _).size); (case hd => exact HdF.out _ ((Below.refl _ _).alloc (Nat.le_refl _) _)); intro v9 w9 hown9 hbw9)
      go_roundw
      case rel => exact ⟨k + 1, Hlt.out, by go_num, by rw [Hsn.out]; exact hown9, (HF.out.alloc HF.out.size _).trans hbw9⟩
      case measure => simp [intOf]; have hlt9 := Hlt.out; omega
    · obtain rfl : k = l.length := by omega
      have hown := Hown.out
      rw [List.take_length] at hown
      obtain ⟨A9, c9, e9, hs9⟩ := hown.read leR_stays
      have He := Lib.hid e9
      have Hs := Lib.hid hs9
      clear e9 hs9 hown Hown
      go_wp2
      go_ret
      exact ⟨A9, c9, by rw [He.out]; rfl, Hs.out, Hbel.out⟩
set_option maxRecDepth 100000 in
set_option maxHeartbeats 2000000 in
theorem sameActs_ok (w : World) (A B : Option Addr) (l : List Le) (c d : Nat) (ha : Les All w A l) (hb : Les All w B l) (hn : l.length ≤ big) :
    Calls Tryd.prog 8 #[.slice A l.length c, .slice B l.length d] w (RetV w (.bool true)) := by
  unfold big at hn
  have Ha := Lib.hid ha
  have Hb := Lib.hid hb
  clear ha hb
  go_enter Tryd.func8, Tryd.ntmps8
  go_wp2
  go_loopw [5] (fun i wr => ∃ k : Nat, k ≤ l.length ∧ i = .int .i64 k ∧ Below w.heap.size w wr) (fun i _ => l.length - (intOf i).toNat)
  case atStart => exact ⟨0, by omega, rfl, Below.refl _ _⟩
  case round =>
    obtain ⟨k, hk, rfl, hbel⟩ := hrel
    have Hbel := Lib.hid hbel
    clear hbel
    by_cases hlt : k < l.length
    · obtain ⟨g, off, D1, d1, hX, _, hgl, hc0, hc1, hc2, hc3, ht1, _⟩ := les_at (Ha.out.below leR_stays Hbel.out) hlt
      subst hX
      obtain ⟨g', off', D2, d2, hX, _, hgl', he0, he1, he2, he3, ht2, _⟩ := les_at (Hb.out.below leR_stays Hbel.out) hlt
      subst hX
      generalize l[k] = x at *
      have hi0 : (0 : Int) ≤ (k : Int) := by omega
      have hi1 : (k : Int) < (l.length : Int) := by omega
      have e3 : (x.data == x.data) = true := by simp
      go_wp2_with fail
      go_region_held3 (fun w' => w'.cell? ⟨g, off + k * 4, none⟩ = some (.int .i64 x.kind) ∧ w'.cell? ⟨g, off + k * 4 + 1, none⟩ = some (.int .i64 x.session) ∧ w'.cell? ⟨g, off + k * 4 + 2, none⟩ = some (.int .i64 x.keep) ∧ w'.cell? ⟨g, off + k * 4 + 3, none⟩ = some (.slice D1 x.data.length d1) ∧ w'.cell? ⟨g', off' + k * 4, none⟩ = some (.int .i64 x.kind) ∧ w'.cell? ⟨g', off' + k * 4 + 1, none⟩ = some (.int .i64 x.session) ∧ w'.cell? ⟨g', off' + k * 4 + 2, none⟩ = some (.int .i64 x.keep) ∧ w'.cell? ⟨g', off' + k * 4 + 3, none⟩ = some (.slice D2 x.data.length d2))
        (go_keep)
        ((go_at_call 18; (with_reducible refine (sameBytes_ok _ D1 D2 x.data x.data d1 d2 ?g1 ?g2).mono ?_); (case g1 => exact ht1.bz.bsame (by repeat' (first | exact Same.refl _ _ | assumption | refine Same.drew ?_ | refine Same.drewN ?_ _ | refine Same.alloc ?_ _ | refine Same.setCell ?_ (fun hq => by simp only [From] at hq; first | omega | (simp at hq; done) | (simp at hq; omega)) _))); (case g2 => exact ht2.bz.bsame (by repeat' (first | exact Same.refl _ _ | assumption | refine Same.drew ?_ | refine Same.drewN ?_ _ | refine Same.alloc ?_ _ | refine Same.setCell ?_ (fun hq => by simp only [From] at hq; first | omega | (simp at hq; done) | (simp at hq; omega)) _))); rw [e3]; rintro e w7 ⟨rfl, rfl⟩))
      go_wp2
      go_roundw
      case rel => exact ⟨k + 1, by omega, by go_num, by first | exact Hbel.out.drew | exact below_drewN Hbel.out _⟩
      case measure => simp [intOf]; omega
    · go_wp2
      go_ret
      exact ⟨rfl, Hbel.out⟩
end Go.Proofs.YtjidppcfjkjjoaaDoor
namespace Go.Proofs.YtjidppcfjkjjoaaDoor
open Go.RowKit
set_option linter.unusedVariables false
set_option linter.unusedSimpArgs false

set_option maxRecDepth 100000 in
set_option maxHeartbeats 1000000 in
theorem linesShows_walk (w : World) (hT : LnTabs w) {A : Option Addr} {l : List Le} {c : Nat} (h : Les All w A l ∧ l.length * 48 ≤ 140737488355328) :
    Calls Tryd.prog 3 #[.slice A l.length c] w (RetV w (.bool true)) := by
  obtain ⟨ha, hn⟩ := h
  have Ha := Lib.hid ha
  have HT := Lib.hid hT
  obtain ⟨r, hr⟩ : ∃ r, r = showS l := ⟨_, rfl⟩
  have hll : l.length ≤ big := by unfold big; omega
  have Hp := Lib.hid (show ∀ (W : World) (A : Option Addr) (c : Nat), LnTabs W → Les All W A l → Calls Tryd.prog 6 #[.slice A l.length c] W (RetShow W r) from fun W A c hT h => by rw [hr]; exact show_ok W hT A l c h)
  have Hq := Lib.hid (show ∀ (W : World) (A : Option Addr) (c : Nat), Les All W A l → Calls Tryd.prog 7 #[.slice A l.length c] W (RetShow W r) from fun W A c h => by rw [hr]; exact actsShown_ok W A l c h)
  clear ha hr hT
  obtain ⟨rs, ri, re⟩ := r
  obtain ⟨S, hS⟩ : ∃ S : ByteArray, S = ⟨rs.toArray⟩ := ⟨_, rfl⟩
  unfold RetShow at Hp Hq
  dsimp only at Hp Hq
  rw [← hS] at Hp Hq
  clear hS
  go_enter Tryd.func3, Tryd.ntmps3
  go_wp2_with (first
    | (go_at_call 5; refine (acts_ok _ A l c Ha.out hn).mono ?_; rintro e w1 ⟨A1, c1, rfl, hs1, hb1⟩)
    | (go_at_call 6; refine (Hp.out _ A1 c1 (HT.out.below hb1) (hs1.z leR_stays)).mono ?_; rintro e w2 ⟨rfl, hb2⟩; have hb12 := hb1.next hb2 hb1.size)
    | (go_at_call 7; refine (Hq.out _ A c (Ha.out.below leR_stays hb12)).mono ?_; rintro e w3 ⟨rfl, hb3⟩; have hb13 := hb12.next hb3 hb12.size)
    | (go_at_call 8; refine (sameActs_ok _ A1 A l c1 c (((hs1.z leR_stays).below leR_stays hb2).below leR_stays hb3) (Ha.out.below leR_stays hb13) hll).mono ?_; rintro e w4 ⟨rfl, hb4⟩; have hb14 := hb13.next hb4 hb13.size))
  go_ret
  exact ⟨by simp, hb14⟩
end Go.Proofs.YtjidppcfjkjjoaaDoor
