/- Forest: Tenants: words for memory. Facts alone. Walks: tenants copied, by the references and by package forest. Walks: what is refused of tenants: forest.Check, ForestFault. Walks: a name looked for among tenants; the pairs of a tenant. Walks: forest.Get, forest.Range and what the references say of them; the laws ForestChecks, ForestGets, ForestRanges. The laws ForestChecks, ForestGets, ForestRanges: their walks. Walk: forest.own. Walk: sameTenants. The conditions of each are in its words. -/
import Derived.Test.YthohkgggodhbcaaGreatKBase
import Derived.Test.YthohkgggodhbcaaGreatKTrees
import Derived.Test.YthohkgggodhbcaaGreatKTreeW
namespace Go.Proofs.YthohkgggodhbcaaGreat
open Go.RowKit
set_option linter.unusedVariables false
set_option linter.unusedSimpArgs false

abbrev Tn := List UInt8 × List Pr
/-- The two cells of a tenant. -/
def TenR (S : Nat → Prop) (w : World) (cs : List Value) (t : Tn) : Prop :=
  ∃ A c B d, cs = [.slice A t.1.length c, .slice B t.2.length d] ∧ Bs S w A t.1 ∧ Ps S w B t.2 ∧ t.1.length ≤ big ∧ t.2.length * 48 ≤ 140737488355328 ∧ t.2.length ≤ d
theorem tenR_stays : Stays TenR :=
  ⟨fun _ _ _ _ _ hb ⟨A, c, B, d, h0, h1, h2, h3⟩ => ⟨A, c, B, d, h0, h1.bsame hb, h2.same pairR_stays hb, h3⟩, fun _ _ _ _ _ hb ⟨A, c, B, d, h0, h1, h2, h3⟩ => ⟨A, c, B, d, h0, h1.bless hb, h2.less pairR_stays hb, h3⟩⟩
theorem info_ten : (Tryz.prog.info? 48).map (fun i => (i.zero, i.size, i.bytes)) = some (some (.agg #[.slice none 0 0, .slice none 0 0]), 2, 48) := by kernel_rfl
abbrev Ts (S : Nat → Prop) (w : World) (A : Option Addr) (l : List Tn) : Prop := SL 2 TenR S w A l
abbrev RetTs (w : World) (l : List Tn) (e : Ending) (w' : World) : Prop := RetSL 2 TenR w l e w'
theorem tens_at {S : Nat → Prop} {w : World} {A : Option Addr} {l : List Tn} (h : Ts S w A l) {k : Nat} (hk : k < l.length) :
    ∃ b off K c V d, A = some ⟨b, off, none⟩ ∧ S b ∧ b < w.heap.size ∧ w.cell? ⟨b, off + k * 2, none⟩ = some (.slice K l[k].1.length c) ∧ w.cell? ⟨b, off + k * 2 + 1, none⟩ = some (.slice V l[k].2.length d) ∧
      Bs S w K l[k].1 ∧ Ps S w V l[k].2 ∧ l[k].1.length ≤ big ∧ l[k].2.length * 48 ≤ 140737488355328 ∧ l[k].2.length ≤ d := by
  obtain ⟨b, off, cs, e, h0, hlt, h1, h2, A', c, B', d, rfl, h3, h4, h5, h6⟩ := h.at hk
  exact ⟨b, off, A', c, B', d, e, h0, hlt, by simpa using h2 0 (by omega), by simpa using h2 1 (by omega), h3, h4, h5, h6⟩
end Go.Proofs.YthohkgggodhbcaaGreat
namespace Go.Proofs.YthohkgggodhbcaaGreat
open Go.RowKit
set_option linter.unusedVariables false
set_option linter.unusedSimpArgs false

/-- An append of one element as a step of a region that draws. -/
theorem step_snoc {P : Program} {α : Type} {R : (Nat → Prop) → World → List Value → α → Prop} (hR : Stays R) {S : Nat → Prop} (w : World) {ops : Array Oper} {o : Oper} {a : Act} {K : Act → World → Prop} {Q : Exit → Act → World → Prop} {E : Prop} (hgd : o.guard = none) (s x : Operand) (t : TypeId)
    (ho : o.op = .call { callee := .builtin .append, args := #[s, x], argTypes := #[t, t] })
    (base : Nat) (e : TypeId) (i : TypeInfo) (z : Value) (size bytes : Nat) (ht : P.underlying t = some (.slice e)) (hi : P.info? e = some i) (hz : i.zero = some z)
    (hsize : i.size = size) (hby : i.bytes = bytes) (hzs : z.cells.size = size) (hsz : 0 < size)
    (v : Value) (l : List α) (hs : a.eval s = v) (hown : Own size R S w base e v l)
    (A : Option Addr) (c : Nat) (cs : List Value) (hx : a.eval x = .slice A 1 c) (hl : cs.length = size) (hsrc : ∃ ad, A = some ad ∧ ∀ j u, cs[j]? = some u → w.cell? (ad.add j) = some u) (h1 : ∀ u ∈ cs, u.oneCell' = true)
    (h63 : l.length + 1 ≤ maxLen) (hbytes : (l.length + 1) * bytes ≤ 140737488355328) (hbase : base ≤ w.heap.size)
    (d : α) (hd : R (fun b => S b ∧ v.ownBlock ≠ some b) w cs d)
    (h : ∀ v' w', Own size R S w' base e v' (l ++ [d]) → Below base w w' → K (a.put o.dst v') w') : if Region.wanted o (yielded ops a.tmps) = true then Oper.wp P o a w K Q else E := by
  have hw : Region.wanted o (yielded ops a.tmps) = true := by simp [Region.wanted, hgd]
  rw [if_pos hw]
  obtain ⟨xs, hx1, hx2⟩ := hown
  exact wp_app w s x t ho base e i z size bytes ht hi hz hsize hby hzs hsz v l.length xs hs hx1 A 1 c cs hx (by omega) (fun _ => hsrc) h1 h63 hbytes hbase
    fun v' w' g1 g2 g3 => h v' w' (Own.snoc hR hx2 hx1 g1 g2 g3 hd hl) (own_below hx1 g2 hbase)
/-- .. and what it writes: the row alone. -/
theorem step_snocG {P : Program} {α : Type} {R : (Nat → Prop) → World → List Value → α → Prop} (hR : Stays R) {S : Nat → Prop} (w : World) {ops : Array Oper} {o : Oper} {a : Act} {K : Act → World → Prop} {Q : Exit → Act → World → Prop} {E : Prop} (hgd : o.guard = none) (s x : Operand) (t : TypeId)
    (ho : o.op = .call { callee := .builtin .append, args := #[s, x], argTypes := #[t, t] })
    (base : Nat) (e : TypeId) (i : TypeInfo) (z : Value) (size bytes : Nat) (ht : P.underlying t = some (.slice e)) (hi : P.info? e = some i) (hz : i.zero = some z)
    (hsize : i.size = size) (hby : i.bytes = bytes) (hzs : z.cells.size = size) (hsz : 0 < size)
    (v : Value) (l : List α) (hs : a.eval s = v) (hown : Own size R S w base e v l)
    (A : Option Addr) (c : Nat) (cs : List Value) (hx : a.eval x = .slice A 1 c) (hl : cs.length = size) (hsrc : ∃ ad, A = some ad ∧ ∀ j u, cs[j]? = some u → w.cell? (ad.add j) = some u) (h1 : ∀ u ∈ cs, u.oneCell' = true)
    (h63 : l.length + 1 ≤ maxLen) (hbytes : (l.length + 1) * bytes ≤ 140737488355328) (hbase : base ≤ w.heap.size)
    (d : α) (hd : R (fun b => S b ∧ v.ownBlock ≠ some b) w cs d)
    (h : ∀ v' w', Own size R S w' base e v' (l ++ [d]) → Below base w w' → w.grownBy w' v.ownBlock → K (a.put o.dst v') w') : if Region.wanted o (yielded ops a.tmps) = true then Oper.wp P o a w K Q else E := by
  have hw : Region.wanted o (yielded ops a.tmps) = true := by simp [Region.wanted, hgd]
  rw [if_pos hw]
  obtain ⟨xs, hx1, hx2⟩ := hown
  exact wp_app w s x t ho base e i z size bytes ht hi hz hsize hby hzs hsz v l.length xs hs hx1 A 1 c cs hx (by omega) (fun _ => hsrc) h1 h63 hbytes hbase
    fun v' w' g1 g2 g3 => h v' w' (Own.snoc hR hx2 hx1 g1 g2 g3 hd hl) (own_below hx1 g2 hbase) g2
/-- A new tenant's cells, as what they say behind more allocations. -/
theorem ten_fresh {n base : Nat} {w W : World} {v : Value} {A B : Option Addr} {t : Tn} {c d : Nat} (h1 : Bs (From n) w A t.1) (h2 : Ps (From n) w B t.2) (g1 : t.1.length ≤ big) (g2 : t.2.length * 48 ≤ 140737488355328) (g3 : t.2.length ≤ d) (hs : Same (From n) w W) (hb : base ≤ n) (hap : ∀ b, From n b → v.ownBlock ≠ some b) :
    TenR (fun b => From base b ∧ v.ownBlock ≠ some b) W [.slice A t.1.length c, .slice B t.2.length d] t :=
  ⟨A, c, B, d, rfl, (h1.bsame hs).bless fun b _ h => ⟨Nat.le_trans hb h, hap b h⟩, (h2.same pairR_stays hs).less pairR_stays fun b _ h => ⟨Nat.le_trans hb h, hap b h⟩, g1, g2, g3⟩
/-- The call returns tenants in a row of its own. -/
def RetOwnTs (w : World) (l : List Tn) (e : Ending) (w' : World) : Prop :=
  ∃ v, e = .returned v ∧ Own 2 TenR (From w.heap.size) w' w.heap.size 48 v l ∧ Below w.heap.size w w'

set_option maxRecDepth 100000 in
set_option maxHeartbeats 1000000 in
theorem forestCopy_own (w : World) (A : Option Addr) (l : List Tn) (c : Nat) (ha : Ts All w A l) (hn : l.length * 48 ≤ 140737488355328) :
    Calls Tryz.prog 73 #[.slice A l.length c] w (RetOwnTs w l) := by
  obtain ⟨i0, hi0, hz0, hz1, hz2⟩ := info_parts info_ten
  have Ha := Lib.hid ha
  clear ha
  go_enter Tryz.func73, Tryz.ntmps73
  go_wp2
  go_loopw [3, 4] (fun v i wr => ∃ k : Nat, k ≤ l.length ∧ i = .int .i64 k ∧ Own 2 TenR (From w.heap.size) wr w.heap.size 48 v (l.take k) ∧ Below w.heap.size w wr) (fun _ i _ => l.length - (intOf i).toNat)
  case atStart => exact ⟨0, by omega, rfl, Own.nil _ _ _, Below.refl _ _⟩
  case round =>
    obtain ⟨k, hk, rfl, hown, hbel⟩ := hrel
    have Hbel := Lib.hid hbel
    have Hown := Lib.hid hown
    have hbz := hbel.size
    clear hown hbel
    by_cases hlt : k < l.length
    · obtain ⟨ab, ao, K, c1, V, d1, rfl, _, hal, hc1, hc2, hs1, hs2, hb1, hb2, _⟩ := tens_at Ha.out hlt
      have Hc := Lib.hid (show ∀ W, Below w.heap.size w W → W.cell? ⟨ab, ao + k * 2, none⟩ = some (.slice K l[k].1.length c1) ∧ W.cell? ⟨ab, ao + k * 2 + 1, none⟩ = some (.slice V l[k].2.length d1) from fun W hW => ⟨(hW.cell hal).trans hc1, (hW.cell hal).trans hc2⟩)
      clear hc1 hc2
      obtain ⟨hc1, hc2⟩ := Hc.out wr Hbel.out
      have Hsn := Lib.hid (take_snoc l k hlt)
      generalize l[k] = x at *
      have hi0' : (0 : Int) ≤ (k : Int) := by omega
      have hi1 : (k : Int) < (l.length : Int) := by omega
      go_wp2_with fail
      go_region_held3 (fun w' => w'.cell? ⟨ab, ao + k * 2, none⟩ = some (.slice K x.1.length c1) ∧ w'.cell? ⟨ab, ao + k * 2 + 1, none⟩ = some (.slice V x.2.length d1))
        (first
          | go_keep
          | exact Hc.out _ hk3
          | exact Hc.out _ hk2
          | exact Hc.out _ hk1)
        (first
          | (go_at_call 17; (with_reducible refine (joinedNil_ok _ K x.1 c1 ?ha hb1).mono ?_); (case ha => exact (hs1.bz.bbelow Hbel.out).bsame (by repeat' (first | exact Same.refl _ _ | assumption | refine Same.drew ?_ | refine Same.drewN ?_ _ | refine Same.alloc ?_ _ | refine Same.setCell ?_ (fun hq => by simp only [From] at hq; first | omega | (simp at hq; done) | (simp at hq; omega)) _))); rintro e w1 ⟨A1, c3, rfl, gs1, hbw1⟩; have hk1 : Below w.heap.size w w1 := Hbel.out.drew.next hbw1 (by first | exact Nat.le_refl _ | omega | (simp; done) | (simp; omega)); have hzw1 : wr.heap.size ≤ w1.heap.size := (by simpa using hbw1.size))
          | (go_at_call 88; (with_reducible refine (pairsCopy_cap _ V x.2 d1 ?ha hb2).mono ?_); (case ha => exact (hs2.z pairR_stays).below pairR_stays hk1); rintro e w2 ⟨A2, d3, rfl, gc2, gs2, hbw2⟩; have hzw2 : w1.heap.size ≤ w2.heap.size := hbw2.size; have hk2 : Below w.heap.size w w2 := hk1.next hbw2 (by first | exact Nat.le_refl _ | omega | (simp; done) | (simp; omega)))
          | (refine step_snoc tenR_stays (S := From w.heap.size) _ rfl (.tmp 11) (.tmp 25) _ rfl w.heap.size 48 i0 _ 2 48 Tryz.underlying34 hi0 hz0 hz1 hz2 rfl (by decide) _ (l.take k) rfl ?hown _ _ [.slice A1 x.1.length c3, .slice A2 x.2.length d3] rfl rfl (new_src _ _ [.slice A1 x.1.length c3, .slice A2 x.2.length d3] _ (by simp)) (by simp [Value.oneCell']) ?hm ?hby ?hba x ?hd ?_; (case hown => (refine Own.below tenR_stays Hown.out ?_; refine ((Below.refl wr.heap.size wr).drew.next hbw1 (by first | exact Nat.le_refl _ | omega | (simp; done) | (simp; omega))).next hbw2 (by first | exact Nat.le_refl _ | omega | (simp; done) | (simp; omega)) |>.alloc (by first | exact Nat.le_refl _ | omega | (simp; done) | (simp; omega)) _)); (case hm => (simp only [List.length_take, maxLen]; omega)); (case hby => (simp only [List.length_take]; omega)); (case hba => (simp; omega)); (case hd => (refine ten_fresh (n := wr.heap.size) (gs1.bbelow hbw2) (gs2.lo pairR_stays hzw1) hb1 hb2 gc2 ?_ (by first | exact Nat.le_refl _ | omega | (simp; done) | (simp; omega)) (Hown.out.apart _ (Nat.le_refl _)); repeat' (first | exact Same.refl _ _ | assumption | refine Same.drew ?_ | refine Same.drewN ?_ _ | refine Same.alloc ?_ _ | refine Same.setCell ?_ (fun hq => by simp only [From] at hq; first | omega | (simp at hq; done) | (simp at hq; omega)) _))); intro v1 w3 hown3 hbw3; have hk3 : Below w.heap.size w w3 := (hk2.alloc (by first | exact Nat.le_refl _ | omega | (simp; done) | (simp; omega)) _).trans hbw3))
      go_wp2
      go_roundw
      case rel => exact ⟨k + 1, by omega, by go_num, by rw [Hsn.out]; exact hown3, hk3⟩
      case measure => simp [intOf]; omega
    · go_wp2
      go_ret
      obtain rfl : k = l.length := by omega
      have h := Hown.out
      rw [List.take_length] at h
      exact ⟨_, rfl, h, Hbel.out⟩
end Go.Proofs.YthohkgggodhbcaaGreat
namespace Go.Proofs.YthohkgggodhbcaaGreat
open Go.RowKit
set_option linter.unusedVariables false
set_option linter.unusedSimpArgs false

def tenOne (t : Tn) : Int := if nameFault t.1 ≠ 0 then nameFault t.1 else if t.2.length = 0 then 4 else pairsFaultS t.2
def tenAt (l : List Tn) (i : Nat) : Int :=
  if tenOne (l.getD i ([], [])) ≠ 0 then tenOne (l.getD i ([], [])) else if 0 < i ∧ lt (l.getD (i - 1) ([], [])).1 (l.getD i ([], [])).1 = false then 3 else 0
/-- What forest.Check and ForestFault answer. -/
def forestFaultS (l : List Tn) : Int := if 8 < l.length then 1 else firstBad (tenAt l) l.length 0
theorem tenAt_bad {l : List Tn} {k : Nat} (hk : k < l.length) (h : tenOne l[k] ≠ 0) : tenAt l k = tenOne l[k] := by
  simp [tenAt, hk, h]
theorem tenAt_order {l : List Tn} {k : Nat} (hk : k + 1 < l.length) (h : tenOne l[k + 1] = 0) (ho : lt l[k].1 l[k + 1].1 = false) : tenAt l (k + 1) = 3 := by
  have hk' : k < l.length := by omega
  simp [tenAt, hk, hk', h, ho]
theorem tenAt_ok {l : List Tn} {k : Nat} (hk : k + 1 < l.length) (h : tenOne l[k + 1] = 0) (ho : lt l[k].1 l[k + 1].1 = true) : tenAt l (k + 1) = 0 := by
  have hk' : k < l.length := by omega
  simp [tenAt, hk, hk', h, ho]
theorem tenAt_zero {l : List Tn} (hk : 0 < l.length) (h : tenOne l[0] = 0) : tenAt l 0 = 0 := by
  simp [tenAt, hk, h]
theorem tenOne_name {t : Tn} (h : nameFault t.1 ≠ 0) : tenOne t = nameFault t.1 := by simp [tenOne, h]
theorem tenOne_none {t : Tn} (h : nameFault t.1 = 0) (h' : t.2.length = 0) : tenOne t = 4 := by simp only [tenOne]; rw [if_neg (by simpa using h), if_pos h']
theorem tenOne_pairs {t : Tn} (h : nameFault t.1 = 0) (h' : t.2.length ≠ 0) : tenOne t = pairsFaultS t.2 := by simp only [tenOne]; rw [if_neg (by simpa using h), if_neg h']


set_option maxRecDepth 100000 in
set_option maxHeartbeats 1000000 in
theorem forestFault_ok (w : World) (A : Option Addr) (l : List Tn) (c : Nat) (ha : Ts All w A l) :
    Calls Tryz.prog 72 #[.slice A l.length c] w (RetV w (.int .i64 (forestFaultS l))) := by
  have Ha := Lib.hid ha
  clear ha
  by_cases hbig : 8 < l.length
  · go_enter Tryz.func72, Tryz.ntmps72
    go_wp2
    go_ret
    exact ⟨ret_int (by simp [forestFaultS, hbig]), Below.refl _ _⟩
  · have Hv := Lib.hid (show forestFaultS l = firstBad (tenAt l) l.length 0 by simp [forestFaultS, hbig])
    have h60 : decide (8 < (l.length : Int)) = false := by simp; omega
    go_enter Tryz.func72, Tryz.ntmps72
    go_wp2
    clear h60
    go_loopw [3] (fun i wr => ∃ k : Nat, k ≤ l.length ∧ i = .int .i64 k ∧ firstBad (tenAt l) (l.length - k) k = forestFaultS l ∧ Below w.heap.size w wr) (fun i _ => l.length - (intOf i).toNat)
    case atStart => exact ⟨0, by omega, rfl, by rw [Hv.out]; rfl, Below.refl _ _⟩
    case round =>
      obtain ⟨k, hk, rfl, hval, hbel⟩ := hrel
      have Hbel := Lib.hid hbel
      have Hval := Lib.hid hval
      have hbz := hbel.size
      clear hbel hval
      by_cases hlt : k < l.length
      · have Hstep := Lib.hid (firstBad_at (tenAt l) hlt)
        obtain ⟨ab, ao, K, c1, V, d1, rfl, _, hal, hc1, hc2, hs1, hs2, _, _⟩ := tens_at (Ha.out.below tenR_stays Hbel.out) hlt
        by_cases h1 : nameFault l[k].1 = 0
        rotate_left
        · have Hone := Lib.hid (tenOne_name h1)
          have Hz := Lib.hid (tenAt_bad hlt (by rw [Hone.out]; exact h1))
          have Hne := Lib.hid h1
          have b1 : (nameFault l[k].1 != 0) = true := by simpa using h1
          have b2 : (nameFault l[k].1 == 0) = false := by simpa using h1
          clear h1
          generalize l[k] = x at *
          go_wp2_with (go_at_call 84; refine (nameFault_ok _ K x.1 c1).mono ?_; rintro e w0 ⟨rfl, rfl⟩)
          go_quiet (fail)
          go_wp2
          go_ret
          exact ⟨ret_int (by rw [← Hval.out, Hstep.out, Hz.out, if_pos (by rw [Hone.out]; first | exact Hne.out | decide), Hone.out]), below_drewN Hbel.out _⟩
        · have b1 : (nameFault l[k].1 != 0) = false := by simp [h1]
          have b2 : (nameFault l[k].1 == 0) = true := by simp [h1]
          by_cases h2 : l[k].2.length = 0
          · have Hone := Lib.hid (tenOne_none h1 h2)
            have Hz := Lib.hid (tenAt_bad hlt (by rw [Hone.out]; decide))
            have Hne := Lib.hid (show (4 : Int) ≠ 0 by decide)
            have b3 : ((l[k].2.length : Int) == 0) = true := by rw [beq_iff_eq]; omega
            clear h1 h2
            generalize l[k] = x at *
            go_wp2_with (go_at_call 84; refine (nameFault_ok _ K x.1 c1).mono ?_; rintro e w0 ⟨rfl, rfl⟩)
            go_quiet (fail)
            go_wp2
            go_ret
            exact ⟨ret_int (by rw [← Hval.out, Hstep.out, Hz.out, if_pos (by rw [Hone.out]; first | exact Hne.out | decide), Hone.out]), below_drewN Hbel.out _⟩
          · have Hone := Lib.hid (tenOne_pairs h1 h2)
            have b3 : ((l[k].2.length : Int) == 0) = false := by rw [beq_eq_false_iff_ne]; omega
            clear h1 h2
            by_cases h3 : pairsFaultS l[k].2 = 0
            rotate_left
            · have Hz := Lib.hid (tenAt_bad hlt (by rw [Hone.out]; exact h3))
              have Hne := Lib.hid h3
              have b4 : (pairsFaultS l[k].2 != 0) = true := by simpa using h3
              have b5 : (pairsFaultS l[k].2 == 0) = false := by simpa using h3
              clear h3
              generalize l[k] = x at *
              go_wp2_with (first | (go_at_call 84; refine (nameFault_ok _ K x.1 c1).mono ?_; rintro e w0 ⟨rfl, rfl⟩) | (go_at_call 87; refine (pairsFault_ok _ V x.2 d1 (hs2.z pairR_stays)).mono ?_; rintro e w1 ⟨rfl, hbw1⟩))
              go_quiet (fail)
              go_wp2
              go_ret
              exact ⟨ret_int (by rw [← Hval.out, Hstep.out, Hz.out, if_pos (by rw [Hone.out]; first | exact Hne.out | decide), Hone.out]), below_drewN (Hbel.out.next hbw1 hbz) _⟩
            · have Hf := Lib.hid (show tenOne l[k] = 0 by rw [Hone.out]; exact h3)
              have b4 : (pairsFaultS l[k].2 != 0) = false := by simp [h3]
              have b5 : (pairsFaultS l[k].2 == 0) = true := by simp [h3]
              clear h3 Hone
              rcases k with _ | m
              · have Hz := Lib.hid (tenAt_zero hlt Hf.out)
                simp only [Nat.zero_mul, Nat.add_zero] at hc1 hc2
                generalize l[0] = x at *
                go_wp2_with (first | (go_at_call 84; refine (nameFault_ok _ K x.1 c1).mono ?_; rintro e w0 ⟨rfl, rfl⟩) | (go_at_call 87; refine (pairsFault_ok _ V x.2 d1 (hs2.z pairR_stays)).mono ?_; rintro e w1 ⟨rfl, hbw1⟩))
                go_quiet (fail)
                go_wp2
                go_roundw
                case rel => exact ⟨1, by omega, rfl, by rw [← Hval.out, Hstep.out, Hz.out]; rfl, below_drewN (Hbel.out.next hbw1 hbz) _⟩
                case measure => simp [intOf]; omega
              · have hm : m < l.length := by omega
                obtain ⟨ab0, ao0, K0, c0, V0, d0, he0, _, _, hc3, hc4, hs3, _, _, _⟩ := tens_at (Ha.out.below tenR_stays Hbel.out) hm
                cases he0
                have hi0 : (0 : Int) ≤ (m : Int) := by omega
                have hi1 : (m : Int) < (l.length : Int) := by omega
                have hi2 : (m : Int) + 1 < (l.length : Int) := by omega
                rcases Bool.eq_false_or_eq_true (lt l[m].1 l[m + 1].1) with ho | ho
                · have Hz := Lib.hid (tenAt_ok hlt Hf.out ho)
                  generalize l[m + 1] = x at *
                  generalize l[m] = q at *
                  go_wp2_with (first | (go_at_call 84; refine (nameFault_ok _ K x.1 c1).mono ?_; rintro e w0 ⟨rfl, rfl⟩) | (go_at_call 87; refine (pairsFault_ok _ V x.2 d1 (hs2.z pairR_stays)).mono ?_; rintro e w1 ⟨rfl, hbw1⟩))
                  have hg1 := (hbw1.cell (p := ⟨ab, ao + (m + 1) * 2, none⟩) hal).trans hc1
                  have hg3 := (hbw1.cell (p := ⟨ab, ao + m * 2, none⟩) hal).trans hc3
                  clear hc1 hc2 hc3
                  go_quiet ((go_at_call 52; exact quiet_left (before_ok _ K0 K q.1 x.1 c0 c1 ((hs3.bz.bbelow hbw1).bsame (by repeat' (first | exact Same.refl _ _ | assumption | refine Same.drew ?_ | refine Same.drewN ?_ _ | refine Same.alloc ?_ _ | refine Same.setCell ?_ (fun hq => by simp only [From] at hq; first | omega | (simp at hq; done) | (simp at hq; omega)) _))) ((hs1.bz.bbelow hbw1).bsame (by repeat' (first | exact Same.refl _ _ | assumption | refine Same.drew ?_ | refine Same.drewN ?_ _ | refine Same.alloc ?_ _ | refine Same.setCell ?_ (fun hq => by simp only [From] at hq; first | omega | (simp at hq; done) | (simp at hq; omega)) _))))))
                  go_wp2
                  go_roundw
                  case rel => exact ⟨m + 2, by omega, by go_num, by rw [← Hval.out, Hstep.out, Hz.out]; rfl, below_drewN (Hbel.out.next hbw1 hbz) _⟩
                  case measure => simp [intOf]; omega
                · have Hz := Lib.hid (tenAt_order hlt Hf.out ho)
                  generalize l[m + 1] = x at *
                  generalize l[m] = q at *
                  go_wp2_with (first | (go_at_call 84; refine (nameFault_ok _ K x.1 c1).mono ?_; rintro e w0 ⟨rfl, rfl⟩) | (go_at_call 87; refine (pairsFault_ok _ V x.2 d1 (hs2.z pairR_stays)).mono ?_; rintro e w1 ⟨rfl, hbw1⟩))
                  have hg1 := (hbw1.cell (p := ⟨ab, ao + (m + 1) * 2, none⟩) hal).trans hc1
                  have hg3 := (hbw1.cell (p := ⟨ab, ao + m * 2, none⟩) hal).trans hc3
                  clear hc1 hc2 hc3
                  go_quiet ((go_at_call 52; exact quiet_left (before_ok _ K0 K q.1 x.1 c0 c1 ((hs3.bz.bbelow hbw1).bsame (by repeat' (first | exact Same.refl _ _ | assumption | refine Same.drew ?_ | refine Same.drewN ?_ _ | refine Same.alloc ?_ _ | refine Same.setCell ?_ (fun hq => by simp only [From] at hq; first | omega | (simp at hq; done) | (simp at hq; omega)) _))) ((hs1.bz.bbelow hbw1).bsame (by repeat' (first | exact Same.refl _ _ | assumption | refine Same.drew ?_ | refine Same.drewN ?_ _ | refine Same.alloc ?_ _ | refine Same.setCell ?_ (fun hq => by simp only [From] at hq; first | omega | (simp at hq; done) | (simp at hq; omega)) _))))))
                  go_wp2
                  go_ret
                  exact ⟨ret_int (by rw [← Hval.out, Hstep.out, Hz.out]; rfl), below_drewN (Hbel.out.next hbw1 hbz) _⟩
      · go_wp2
        go_ret
        obtain rfl : k = l.length := by omega
        have h := Hval.out
        simp [firstBad] at h
        exact ⟨ret_int h, Hbel.out⟩

set_option maxRecDepth 100000 in
set_option maxHeartbeats 1000000 in
theorem forestCheck_ok (w : World) (A : Option Addr) (l : List Tn) (c : Nat) (ha : Ts All w A l) :
    Calls Tryz.prog 44 #[.slice A l.length c] w (RetV w (.int .i64 (forestFaultS l))) := by
  have Ha := Lib.hid ha
  clear ha
  by_cases hbig : 8 < l.length
  · go_enter Tryz.func44, Tryz.ntmps44
    go_wp2
    go_ret
    exact ⟨ret_int (by simp [forestFaultS, hbig]), Below.refl _ _⟩
  · have Hv := Lib.hid (show forestFaultS l = firstBad (tenAt l) l.length 0 by simp [forestFaultS, hbig])
    have h60 : decide (8 < (l.length : Int)) = false := by simp; omega
    go_enter Tryz.func44, Tryz.ntmps44
    go_wp2
    clear h60
    go_loopw [12] (fun i wr => ∃ k : Nat, k ≤ l.length ∧ i = .int .i64 k ∧ firstBad (tenAt l) (l.length - k) k = forestFaultS l ∧ Below w.heap.size w wr) (fun i _ => l.length - (intOf i).toNat)
    case atStart => exact ⟨0, by omega, rfl, by rw [Hv.out]; rfl, Below.refl _ _⟩
    case round =>
      obtain ⟨k, hk, rfl, hval, hbel⟩ := hrel
      have Hbel := Lib.hid hbel
      have Hval := Lib.hid hval
      have hbz := hbel.size
      clear hbel hval
      by_cases hlt : k < l.length
      · have Hstep := Lib.hid (firstBad_at (tenAt l) hlt)
        obtain ⟨ab, ao, K, c1, V, d1, rfl, _, hal, hc1, hc2, hs1, hs2, _, _⟩ := tens_at (Ha.out.below tenR_stays Hbel.out) hlt
        by_cases h1 : nameFault l[k].1 = 0
        rotate_left
        · have Hone := Lib.hid (tenOne_name h1)
          have Hz := Lib.hid (tenAt_bad hlt (by rw [Hone.out]; exact h1))
          have Hne := Lib.hid h1
          have b1 : (nameFault l[k].1 != 0) = true := by simpa using h1
          have b2 : (nameFault l[k].1 == 0) = false := by simpa using h1
          clear h1
          generalize l[k] = x at *
          go_wp2_with (go_at_call 45; refine (forestName_ok _ K x.1 c1).mono ?_; rintro e w0 ⟨rfl, rfl⟩)
          go_ret
          exact ⟨ret_int (by rw [← Hval.out, Hstep.out, Hz.out, if_pos (by rw [Hone.out]; first | exact Hne.out | decide), Hone.out]), (Hbel.out.alloc Hbel.out.size _)⟩
        · have b1 : (nameFault l[k].1 != 0) = false := by simp [h1]
          have b2 : (nameFault l[k].1 == 0) = true := by simp [h1]
          by_cases h2 : l[k].2.length = 0
          · have Hone := Lib.hid (tenOne_none h1 h2)
            have Hz := Lib.hid (tenAt_bad hlt (by rw [Hone.out]; decide))
            have Hne := Lib.hid (show (4 : Int) ≠ 0 by decide)
            have b3 : ((l[k].2.length : Int) == 0) = true := by rw [beq_iff_eq]; omega
            clear h1 h2
            generalize l[k] = x at *
            go_wp2_with (go_at_call 45; refine (forestName_ok _ K x.1 c1).mono ?_; rintro e w0 ⟨rfl, rfl⟩)
            go_ret
            exact ⟨ret_int (by rw [← Hval.out, Hstep.out, Hz.out, if_pos (by rw [Hone.out]; first | exact Hne.out | decide), Hone.out]), (Hbel.out.alloc Hbel.out.size _)⟩
          · have Hone := Lib.hid (tenOne_pairs h1 h2)
            have b3 : ((l[k].2.length : Int) == 0) = false := by rw [beq_eq_false_iff_ne]; omega
            clear h1 h2
            by_cases h3 : pairsFaultS l[k].2 = 0
            rotate_left
            · have Hz := Lib.hid (tenAt_bad hlt (by rw [Hone.out]; exact h3))
              have Hne := Lib.hid h3
              have b4 : (pairsFaultS l[k].2 != 0) = true := by simpa using h3
              have b5 : (pairsFaultS l[k].2 == 0) = false := by simpa using h3
              clear h3
              generalize l[k] = x at *
              go_wp2_with (first | (go_at_call 45; refine (forestName_ok _ K x.1 c1).mono ?_; rintro e w0 ⟨rfl, rfl⟩) | (go_at_call 46; refine (treeCheck_ok _ V x.2 d1 ((hs2.z pairR_stays).below pairR_stays ((Below.refl _ _).alloc (Nat.le_refl _) _))).mono ?_; rintro e w1 ⟨rfl, hbw1⟩))
              go_ret
              exact ⟨ret_int (by rw [← Hval.out, Hstep.out, Hz.out, if_pos (by rw [Hone.out]; first | exact Hne.out | decide), Hone.out]), (Hbel.out.alloc Hbel.out.size _).next hbw1 (by simp; omega)⟩
            · have Hf := Lib.hid (show tenOne l[k] = 0 by rw [Hone.out]; exact h3)
              have b4 : (pairsFaultS l[k].2 != 0) = false := by simp [h3]
              have b5 : (pairsFaultS l[k].2 == 0) = true := by simp [h3]
              clear h3 Hone
              rcases k with _ | m
              · have Hz := Lib.hid (tenAt_zero hlt Hf.out)
                simp only [Nat.zero_mul, Nat.add_zero] at hc1 hc2
                generalize l[0] = x at *
                go_wp2_with (first | (go_at_call 45; refine (forestName_ok _ K x.1 c1).mono ?_; rintro e w0 ⟨rfl, rfl⟩) | (go_at_call 46; refine (treeCheck_ok _ V x.2 d1 ((hs2.z pairR_stays).below pairR_stays ((Below.refl _ _).alloc (Nat.le_refl _) _))).mono ?_; rintro e w1 ⟨rfl, hbw1⟩))
                go_quiet (fail)
                go_wp2
                go_roundw
                case rel => exact ⟨1, by omega, rfl, by rw [← Hval.out, Hstep.out, Hz.out]; rfl, below_drewN ((Hbel.out.alloc Hbel.out.size _).next hbw1 (by simp; omega)) _⟩
                case measure => simp [intOf]; omega
              · have hm : m < l.length := by omega
                obtain ⟨ab0, ao0, K0, c0, V0, d0, he0, _, _, hc3, hc4, hs3, _, _, _⟩ := tens_at (Ha.out.below tenR_stays Hbel.out) hm
                cases he0
                have hi0 : (0 : Int) ≤ (m : Int) := by omega
                have hi1 : (m : Int) < (l.length : Int) := by omega
                have hi2 : (m : Int) + 1 < (l.length : Int) := by omega
                rcases Bool.eq_false_or_eq_true (lt l[m].1 l[m + 1].1) with ho | ho
                · have Hz := Lib.hid (tenAt_ok hlt Hf.out ho)
                  have hcm : decide (0 ≤ cmp3 l[m].1 l[m + 1].1) = false := by have := cmp3_neg ho; simpa using this
                  clear ho
                  generalize l[m + 1] = x at *
                  generalize l[m] = q at *
                  go_wp2_with (first | (go_at_call 45; refine (forestName_ok _ K x.1 c1).mono ?_; rintro e w0 ⟨rfl, rfl⟩) | (go_at_call 46; refine (treeCheck_ok _ V x.2 d1 ((hs2.z pairR_stays).below pairR_stays ((Below.refl _ _).alloc (Nat.le_refl _) _))).mono ?_; rintro e w1 ⟨rfl, hbw1⟩))
                  have hold := (Below.refl wr.heap.size wr).alloc (Nat.le_refl _) (.cells #[.slice K x.1.length c1, .slice V x.2.length d1] 48)
                  have hz1 : wr.heap.size + 1 ≤ w1.heap.size := by have hz := hbw1.size; simpa using hz
                  have hg3 := (hbw1.cell (p := ⟨ab, ao + m * 2, none⟩) (by simp; omega)).trans ((hold.cell (p := ⟨ab, ao + m * 2, none⟩) hal).trans hc3)
                  have hg1 : w1.cell? ⟨wr.heap.size, 0, none⟩ = some (.slice K x.1.length c1) := (hbw1.cell (by first | (simp; done) | omega | (simp; omega))).trans (by simp)
                  have Ho1 := Lib.hid (hold.next hbw1 (by simp))
                  have hiw : IntKind.i64.wrap (m : Int) = (m : Int) := IntWalk.i64_in _ (by omega)
                  clear hc1 hc2 hc3 hc4 hold
                  go_quiet ((go_at_call 43; exact quiet_left (bytesCompare_ok _ K0 K q.1 x.1 c0 c1 ((hs3.bz.bbelow Ho1.out).bsame (by repeat' (first | exact Same.refl _ _ | assumption | refine Same.drew ?_ | refine Same.drewN ?_ _ | refine Same.alloc ?_ _ | refine Same.setCell ?_ (fun hq => by simp only [From] at hq; first | omega | (simp at hq; done) | (simp at hq; omega)) _))) ((hs1.bz.bbelow Ho1.out).bsame (by repeat' (first | exact Same.refl _ _ | assumption | refine Same.drew ?_ | refine Same.drewN ?_ _ | refine Same.alloc ?_ _ | refine Same.setCell ?_ (fun hq => by simp only [From] at hq; first | omega | (simp at hq; done) | (simp at hq; omega)) _))))))
                  go_wp2
                  go_roundw
                  case rel => exact ⟨m + 2, by omega, by go_num, by rw [← Hval.out, Hstep.out, Hz.out]; rfl, below_drewN (Hbel.out.next Ho1.out hbz) _⟩
                  case measure => simp [intOf]; omega
                · have Hz := Lib.hid (tenAt_order hlt Hf.out ho)
                  have hcm : decide (0 ≤ cmp3 l[m].1 l[m + 1].1) = true := by have := cmp3_nonneg ho; simpa using this
                  clear ho
                  generalize l[m + 1] = x at *
                  generalize l[m] = q at *
                  go_wp2_with (first | (go_at_call 45; refine (forestName_ok _ K x.1 c1).mono ?_; rintro e w0 ⟨rfl, rfl⟩) | (go_at_call 46; refine (treeCheck_ok _ V x.2 d1 ((hs2.z pairR_stays).below pairR_stays ((Below.refl _ _).alloc (Nat.le_refl _) _))).mono ?_; rintro e w1 ⟨rfl, hbw1⟩))
                  have hold := (Below.refl wr.heap.size wr).alloc (Nat.le_refl _) (.cells #[.slice K x.1.length c1, .slice V x.2.length d1] 48)
                  have hz1 : wr.heap.size + 1 ≤ w1.heap.size := by have hz := hbw1.size; simpa using hz
                  have hg3 := (hbw1.cell (p := ⟨ab, ao + m * 2, none⟩) (by simp; omega)).trans ((hold.cell (p := ⟨ab, ao + m * 2, none⟩) hal).trans hc3)
                  have hg1 : w1.cell? ⟨wr.heap.size, 0, none⟩ = some (.slice K x.1.length c1) := (hbw1.cell (by first | (simp; done) | omega | (simp; omega))).trans (by simp)
                  have Ho1 := Lib.hid (hold.next hbw1 (by simp))
                  have hiw : IntKind.i64.wrap (m : Int) = (m : Int) := IntWalk.i64_in _ (by omega)
                  clear hc1 hc2 hc3 hc4 hold
                  go_quiet ((go_at_call 43; exact quiet_left (bytesCompare_ok _ K0 K q.1 x.1 c0 c1 ((hs3.bz.bbelow Ho1.out).bsame (by repeat' (first | exact Same.refl _ _ | assumption | refine Same.drew ?_ | refine Same.drewN ?_ _ | refine Same.alloc ?_ _ | refine Same.setCell ?_ (fun hq => by simp only [From] at hq; first | omega | (simp at hq; done) | (simp at hq; omega)) _))) ((hs1.bz.bbelow Ho1.out).bsame (by repeat' (first | exact Same.refl _ _ | assumption | refine Same.drew ?_ | refine Same.drewN ?_ _ | refine Same.alloc ?_ _ | refine Same.setCell ?_ (fun hq => by simp only [From] at hq; first | omega | (simp at hq; done) | (simp at hq; omega)) _))))))
                  go_wp2
                  go_ret
                  exact ⟨ret_int (by rw [← Hval.out, Hstep.out, Hz.out]; rfl), below_drewN (Hbel.out.next Ho1.out hbz) _⟩
      · go_wp2
        go_ret
        obtain rfl : k = l.length := by omega
        have h := Hval.out
        simp [firstBad] at h
        exact ⟨ret_int h, Hbel.out⟩
end Go.Proofs.YthohkgggodhbcaaGreat
namespace Go.Proofs.YthohkgggodhbcaaGreat
open Go.RowKit
set_option linter.unusedVariables false
set_option linter.unusedSimpArgs false

set_option maxRecDepth 100000 in
set_option maxHeartbeats 400000 in
theorem findCmp_ok (w : World) (A B : Option Addr) (t : Tn) (c d : Nat) (K : Option Addr) (k : List UInt8) (c1 : Nat) (ha : Bs All w A t.1) (hk : Bs All w K k) :
    Calls Tryz.prog 70 #[.agg #[.slice A t.1.length c, .slice B t.2.length d], .slice K k.length c1] w (RetV w (.int .i64 (cmp3 t.1 k))) := by
  have Ha := Lib.hid ha
  have Hk := Lib.hid hk
  clear ha hk
  go_enter Tryz.func70, Tryz.ntmps70
  go_wp2_with (go_at_call 43; refine (bytesCompare_ok _ A K t.1 k c c1 (Ha.out.bbelow ?_) (Hk.out.bbelow ?_)).mono ?_; (repeat' (first | exact Below.refl _ _ | assumption | refine Below.drew ?_ | refine below_drewN ?_ _ | refine Below.alloc ?_ (by first | exact Nat.le_refl _ | omega | (simp; done) | (simp; omega)) _)); (repeat' (first | exact Below.refl _ _ | assumption | refine Below.drew ?_ | refine below_drewN ?_ _ | refine Below.alloc ?_ (by first | exact Nat.le_refl _ | omega | (simp; done) | (simp; omega)) _)); rintro e w' ⟨rfl, rfl⟩)
  go_ret
  refine ⟨rfl, ?_⟩
  repeat' (first | exact Below.refl _ _ | assumption | refine Below.drew ?_ | refine below_drewN ?_ _ | refine Below.alloc ?_ (by first | exact Nat.le_refl _ | omega | (simp; done) | (simp; omega)) _)
set_option maxRecDepth 100000 in
set_option maxHeartbeats 1000000 in
theorem searchT_ok (w : World) (A : Option Addr) (l : List Tn) (c : Nat) (K : Option Addr) (k : List UInt8) (c1 : Nat) (ha : Ts All w A l) (hk : Bs All w K k) (hn : l.length ≤ 60) (hr : Rise (keys l)) :
    Calls Tryz.prog 69 #[.slice A l.length c, .slice K k.length c1, .func (.func 70) #[] #[]] w (RetFind w (keys l) k) := by
  have Ha := Lib.hid ha
  have Hk := Lib.hid hk
  have Hr := Lib.hid hr
  clear ha hk hr
  go_enter Tryz.func69, Tryz.ntmps69
  go_wp2
  go_loopw [9, 10, 11] (fun i j _ wr => ∃ a b : Nat, i = .int .i64 a ∧ j = .int .i64 b ∧ a ≤ b ∧ b ≤ l.length ∧ (∀ m (_ : m < a) (h : m < (keys l).length), lt (keys l)[m] k = true) ∧ (∀ m (_ : b ≤ m) (h : m < (keys l).length), lt (keys l)[m] k = false) ∧ Below w.heap.size w wr) (fun i j _ _ => (intOf j).toNat - (intOf i).toNat)
  case atStart => exact ⟨0, l.length, rfl, rfl, by omega, Nat.le_refl _, fun m h => absurd h (by omega), fun m h1 h2 => absurd h2 (by simp [keys]; omega), Below.refl _ _⟩
  case round =>
    obtain ⟨a, b, rfl, rfl, hab, hbl, hlow, hhigh, hbel⟩ := hrel
    have Hlow := Lib.hid hlow
    have Hhigh := Lib.hid hhigh
    have Hbel := Lib.hid hbel
    have hbz := hbel.size
    clear hlow hhigh hbel
    by_cases hlt : a < b
    · have hm1 : a ≤ (a + b) / 2 := by omega
      have hm2 : (a + b) / 2 < b := by omega
      have hml : (a + b) / 2 < l.length := by omega
      obtain ⟨ab, ao, K0, c0, V0, d0, rfl, _, hal, hc1, hc2, hs1, hs2, _, _⟩ := tens_at (Ha.out.below tenR_stays Hbel.out) hml
      have hi0 : (0 : Int) ≤ ((a : Int) + (b : Int)) / 2 := by omega
      have hi1 : ((a : Int) + (b : Int)) / 2 < (l.length : Int) := by omega
      have Hmi := Lib.hid (show ((a : Int) + (b : Int)) / 2 = (((a + b) / 2 : Nat) : Int) by omega)
      rcases Bool.eq_false_or_eq_true (lt l[(a + b) / 2].1 k) with ho | ho
      · have hcm : decide (cmp3 l[(a + b) / 2].1 k < 0) = true := by have := cmp3_neg ho; simpa using this
        have Hl := Lib.hid (low_of Hr.out (m := (a + b) / 2) (k := k) (by simpa [keys] using hml) (by rw [keys_at]; exact ho))
        clear ho
        generalize l[(a + b) / 2] = x at *
        go_wp2_with (go_at_call 70; refine (findCmp_ok _ K0 V0 x c0 d0 K k c1 hs1.bz (Hk.out.bbelow Hbel.out)).mono ?_; rintro e w2 ⟨rfl, hbw2⟩)
        go_roundw
        case rel => exact ⟨(a + b) / 2 + 1, b, by first | go_num | (have := Hmi.out; simp; omega), rfl, by omega, hbl, Hl.out, Hhigh.out, Hbel.out.next hbw2 hbz⟩
        case measure => simp [intOf]; omega
      · have hcm : decide (cmp3 l[(a + b) / 2].1 k < 0) = false := by have := cmp3_nonneg ho; simpa using this
        have Hl := Lib.hid (high_of Hr.out (m := (a + b) / 2) (k := k) (by simpa [keys] using hml) (by rw [keys_at]; exact ho))
        clear ho
        generalize l[(a + b) / 2] = x at *
        go_wp2_with (go_at_call 70; refine (findCmp_ok _ K0 V0 x c0 d0 K k c1 hs1.bz (Hk.out.bbelow Hbel.out)).mono ?_; rintro e w2 ⟨rfl, hbw2⟩)
        go_roundw
        case rel => exact ⟨a, (a + b) / 2, rfl, by first | rfl | go_num | (have := Hmi.out; simp; omega), by omega, by omega, Hlow.out, Hl.out, Hbel.out.next hbw2 hbz⟩
        case measure => simp [intOf]; omega
    · obtain rfl : a = b := by omega
      have Hat := Lib.hid (show At (keys l) k a from ⟨by simpa [keys] using hbl, Hlow.out, Hhigh.out⟩)
      clear Hlow Hhigh
      by_cases hml : a < l.length
      · have b1 : decide ((a : Int) < (l.length : Int)) = true := by simp; omega
        obtain ⟨ab, ao, K0, c0, V0, d0, rfl, _, hal, hc1, hc2, hs1, hs2, _, _⟩ := tens_at (Ha.out.below tenR_stays Hbel.out) hml
        have hi0 : (0 : Int) ≤ (a : Int) := by omega
        have hi1 : (a : Int) < (l.length : Int) := by omega
        have hfe : (cmp3 l[a].1 k == 0) = decide ((keys l)[a]? = some k) := by
          rw [cmp3_zero]
          rw [Bool.eq_iff_iff]
          simp [keys, hml]
        have Hfe := Lib.hid hfe
        clear hfe
        go_wp2_with (go_at_call 70; refine (findCmp_ok _ K0 V0 l[a] c0 d0 K k c1 hs1.bz (Hk.out.bbelow Hbel.out)).mono ?_; rintro e w2 ⟨rfl, hbw2⟩)
        go_ret2
        exact ⟨a, by rw [← Hfe.out]; rfl, Hat.out, Hbel.out.next hbw2 hbz⟩
      · have b1 : decide ((a : Int) < (l.length : Int)) = false := by simp; omega
        go_wp2
        go_ret2
        refine ⟨a, ?_, Hat.out, Hbel.out⟩
        have hq : (keys l)[a]? = none := List.getElem?_eq_none (by simp [keys]; omega)
        rw [hq]
        rfl
set_option maxRecDepth 100000 in
set_option maxHeartbeats 1000000 in
theorem forestFind_ok (w : World) (A : Option Addr) (l : List Tn) (c : Nat) (K : Option Addr) (k : List UInt8) (c1 : Nat) (ha : Ts All w A l) (hk : Bs All w K k) (hn : l.length ≤ 60) (hr : Rise (keys l)) :
    Calls Tryz.prog 49 #[.slice A l.length c, .slice K k.length c1] w (RetFind w (keys l) k) := by
  have Ha := Lib.hid ha
  have Hk := Lib.hid hk
  have Hr := Lib.hid hr
  have Hn := Lib.hid hn
  clear ha hk hr hn
  go_enter Tryz.func49, Tryz.ntmps49
  go_wp2_with (go_at_call 69; refine (searchT_ok _ A l c K k c1 Ha.out Hk.out Hn.out Hr.out).mono ?_; rintro e w1 ⟨i, rfl, hat, hb1⟩; dsimp only)
  go_ret2
  exact ⟨i, rfl, hat, hb1⟩

/-- The pairs of a tenant; none, if there is no such. -/
def pairsOfS (l : List Tn) (k : List UInt8) : List Pr := ((l.find? (·.1 == k)).map (·.2)).getD []
/-- The call returns pairs that lie there already. -/
def RetPsOld (w : World) (l : List Pr) (e : Ending) (w' : World) : Prop :=
  ∃ A c, e = .returned (.slice A l.length c) ∧ Ps All w' A l ∧ l.length * 48 ≤ 140737488355328 ∧ l.length ≤ c ∧ Below w.heap.size w w'
theorem ten_fine {l : List Tn} (h : forestFaultS l = 0) : l.length ≤ 8 ∧ (∀ t ∈ l, tenOne t = 0) ∧ Rise (keys l) := by
  unfold forestFaultS at h
  split at h
  · simp at h
  · rename_i hl
    have hz := firstBad_zero _ _ h
    have hp : ∀ i (hi : i < l.length), tenOne l[i] = 0 := fun i hi => by
      have := hz i hi
      rw [Nat.zero_add] at this
      by_cases hb : tenOne l[i] = 0
      · exact hb
      · rw [tenAt_bad hi hb] at this; exact this
    refine ⟨by omega, fun p hp' => ?_, rise_of_steps fun i hi => ?_⟩
    · obtain ⟨i, hi, rfl⟩ := List.getElem_of_mem hp'
      exact hp i hi
    · have hi' : i + 1 < l.length := by simpa [keys] using hi
      simp only [keys_at]
      have := hz (i + 1) hi'
      rw [Nat.zero_add] at this
      rcases Bool.eq_false_or_eq_true (lt l[i].1 l[i + 1].1) with ho | ho
      · exact ho
      · rw [tenAt_order hi' (hp _ hi') ho] at this
        cases this
theorem find_at {β : Type} {l : List (List UInt8 × β)} {k : List UInt8} (hr : Rise (keys l)) {i : Nat} (hi : i < l.length) (h : l[i].1 = k) : l.find? (·.1 == k) = some l[i] := by
  rw [List.find?_eq_some_iff_getElem]
  refine ⟨by simpa using h, i, hi, rfl, fun j hj => ?_⟩
  have hjl : j < l.length := by omega
  simp only [Bool.not_eq_true', beq_eq_false_iff_ne]
  intro e
  have := rise_inj hr (i := j) (j := i) (by simpa [keys] using hjl) (by simpa [keys] using hi) (by rw [keys_at, keys_at, e, h])
  omega
theorem find_not {β : Type} {l : List (List UInt8 × β)} {k : List UInt8} {i : Nat} (hr : Rise (keys l)) (hat : At (keys l) k i) (h : (keys l)[i]? ≠ some k) : l.find? (·.1 == k) = none := by
  rw [List.find?_eq_none]
  intro p hp
  obtain ⟨j, hj, rfl⟩ := List.getElem_of_mem hp
  have hjk : j < (keys l).length := by simpa [keys] using hj
  simp only [beq_iff_eq]
  intro e
  have ek : (keys l)[j] = k := by rw [keys_at]; exact e
  rcases (by omega : j < i ∨ i ≤ j) with h1 | h1
  · have := hat.low j h1 hjk; rw [ek, lt_irrefl] at this; cases this
  · rcases (by omega : i = j ∨ i < j) with h2 | h2
    · subst h2
      exact h (by rw [List.getElem?_eq_getElem hjk, ek])
    · have h3 := hr i j h2 hjk
      rw [ek, hat.high i (Nat.le_refl _) (by omega)] at h3
      cases h3
set_option maxRecDepth 100000 in
set_option maxHeartbeats 1000000 in
theorem forestPairs_ok (w : World) (A : Option Addr) (l : List Tn) (c : Nat) (K : Option Addr) (k : List UInt8) (c1 : Nat) (ha : Ts All w A l) (hk : Bs All w K k) (hn : l.length ≤ 60) (hr : Rise (keys l)) :
    Calls Tryz.prog 30 #[.slice A l.length c, .slice K k.length c1] w (RetPsOld w (pairsOfS l k)) := by
  have Ha := Lib.hid ha
  have Hk := Lib.hid hk
  have Hr := Lib.hid hr
  have Hn := Lib.hid hn
  clear ha hk hr hn
  go_enter Tryz.func30, Tryz.ntmps30
  go_wp2_with fail
  refine (forestFind_ok _ A l c K k c1 Ha.out Hk.out Hn.out Hr.out).mono ?_
  rintro e w1 ⟨i, rfl, hat, hb1⟩
  have Hb1 := Lib.hid hb1
  by_cases hf : (keys l)[i]? = some k
  · rw [decide_eq_true hf]
    have hik : i < (keys l).length := by
      rcases Nat.lt_or_ge i (keys l).length with h | h
      · exact h
      · rw [List.getElem?_eq_none h] at hf; cases hf
    have hil : i < l.length := by simpa [keys] using hik
    have hli : l[i].1 = k := by
      rw [List.getElem?_eq_getElem hik, keys_at] at hf
      exact Option.some.inj hf
    have Hv := Lib.hid (show pairsOfS l k = l[i].2 by simp only [pairsOfS, find_at Hr.out hil hli]; rfl)
    obtain ⟨ab, ao, K0, c0, V0, d0, rfl, _, hal, hc1, hc2, hs1, hs2, _, hbb, hbc⟩ := tens_at (Ha.out.below tenR_stays Hb1.out) hil
    have hi0 : (0 : Int) ≤ (i : Int) := by omega
    have hi1 : (i : Int) < (l.length : Int) := by omega
    have Hs2 := Lib.hid hs2
    clear hf hik hli hat hb1 hs2
    go_wp2
    go_ret
    rw [Hv.out]
    exact ⟨V0, d0, rfl, Hs2.out, hbb, hbc, Hb1.out⟩
  · rw [decide_eq_false hf]
    have Hv := Lib.hid (show pairsOfS l k = [] by simp only [pairsOfS, find_not Hr.out hat hf]; rfl)
    clear hf hat hb1
    go_wp2
    go_ret
    rw [Hv.out]
    exact ⟨none, 0, rfl, SL.nil, by simp, by simp, Hb1.out⟩
theorem pairsOf_next {l : List Tn} {k : List UInt8} {m : Nat} (hm : m < l.length) (h : (l[m].1 == k) = false) : pairsOfS (l.drop m) k = pairsOfS (l.drop (m + 1)) k := by
  rw [List.drop_eq_getElem_cons hm]
  simp only [pairsOfS, List.find?_cons, h]
theorem pairsOf_here {l : List Tn} {k : List UInt8} {m : Nat} (hm : m < l.length) (h : (l[m].1 == k) = true) : pairsOfS (l.drop m) k = l[m].2 := by
  rw [List.drop_eq_getElem_cons hm]
  simp only [pairsOfS, List.find?_cons, h, Option.map_some, Option.getD_some]
set_option maxRecDepth 100000 in
set_option maxHeartbeats 1000000 in
theorem pairsOf_ok (w : World) (A : Option Addr) (l : List Tn) (c : Nat) (K : Option Addr) (k : List UInt8) (c1 : Nat) (ha : Ts All w A l) (hk : Bs All w K k) (hn : l.length * 48 ≤ 140737488355328) :
    Calls Tryz.prog 34 #[.slice A l.length c, .slice K k.length c1] w (RetPsOld w (pairsOfS l k)) := by
  have Ha := Lib.hid ha
  have Hk := Lib.hid hk
  clear ha hk
  go_enter Tryz.func34, Tryz.ntmps34
  go_wp2
  go_loopw [5] (fun i wr => ∃ m : Nat, m ≤ l.length ∧ i = .int .i64 m ∧ pairsOfS (l.drop m) k = pairsOfS l k ∧ Below w.heap.size w wr) (fun i _ => l.length - (intOf i).toNat)
  case atStart => exact ⟨0, by omega, rfl, rfl, Below.refl _ _⟩
  case round =>
    obtain ⟨m, hm, rfl, hfv, hbel⟩ := hrel
    have Hfv := Lib.hid hfv
    have Hbel := Lib.hid hbel
    clear hfv hbel
    by_cases hlt : m < l.length
    · obtain ⟨ab, ao, K0, c0, V0, d0, rfl, _, hal, hc1, hc2, hs1, hs2, _, hbb, hbc⟩ := tens_at (Ha.out.below tenR_stays Hbel.out) hlt
      have Hkr := Lib.hid (Hk.out.bbelow Hbel.out)
      have Hs2 := Lib.hid hs2
      clear hs2
      rcases Bool.eq_false_or_eq_true (l[m].1 == k) with he | he
      · have Hgs := Lib.hid (show pairsOfS l k = l[m].2 by rw [← Hfv.out]; exact pairsOf_here hlt he)
        generalize l[m] = x at *
        go_wp2_with (go_at_call 35; refine (refSameBytes_ok _ K0 K x.1 k c0 c1 hs1.bz Hkr.out).mono ?_; rintro e w2 ⟨rfl, rfl⟩)
        go_ret
        rw [Hgs.out]
        exact ⟨V0, d0, rfl, Hs2.out, hbb, hbc, Hbel.out⟩
      · have Hst := Lib.hid (pairsOf_next hlt he)
        generalize l[m] = x at *
        go_wp2_with (go_at_call 35; refine (refSameBytes_ok _ K0 K x.1 k c0 c1 hs1.bz Hkr.out).mono ?_; rintro e w2 ⟨rfl, rfl⟩)
        go_roundw
        case rel => exact ⟨m + 1, by omega, by go_num, by rw [← Hst.out]; exact Hfv.out, Hbel.out⟩
        case measure => simp [intOf]; omega
    · obtain rfl : m = l.length := by omega
      have Hgs := Lib.hid (show pairsOfS l k = [] by rw [← Hfv.out, List.drop_length]; rfl)
      go_wp2
      go_ret
      rw [Hgs.out]
      exact ⟨none, 0, rfl, SL.nil, by simp, by simp, Hbel.out⟩
end Go.Proofs.YthohkgggodhbcaaGreat
namespace Go.Proofs.YthohkgggodhbcaaGreat
open Go.RowKit
set_option linter.unusedVariables false
set_option linter.unusedSimpArgs false

def fnFault (l : List Tn) (n : List UInt8) : Int := if forestFaultS l ≠ 0 then forestFaultS l else nameFault n
theorem fn_fine {l : List Tn} {n : List UInt8} (h : fnFault l n = 0) : forestFaultS l = 0 ∧ nameFault n = 0 := by
  unfold fnFault at h
  split at h
  · rename_i h1; exact absurd h h1
  · rename_i h1; exact ⟨by simpa using h1, h⟩
def forestGetS (l : List Tn) (n k : List UInt8) : Finding × Int := if fnFault l n ≠ 0 then ((false, []), fnFault l n) else getS (pairsOfS l n) k
def forestRangeS (l : List Tn) (n k m : List UInt8) : List Pr × Int := if fnFault l n ≠ 0 then ([], fnFault l n) else rangeS (pairsOfS l n) k m

set_option maxRecDepth 100000 in
set_option maxHeartbeats 400000 in
theorem forestChecked_ok (w : World) (A : Option Addr) (l : List Tn) (c : Nat) (K : Option Addr) (k : List UInt8) (c1 : Nat) (ha : Ts All w A l) :
    Calls Tryz.prog 28 #[.slice A l.length c, .slice K k.length c1] w (RetV w (.int .i64 (fnFault l k))) := by
  have Ha := Lib.hid ha
  clear ha
  by_cases h1 : forestFaultS l = 0
  · have b1 : (forestFaultS l == 0) = true := by simp [h1]
    have b2 : (forestFaultS l != 0) = false := by simp [h1]
    have Hv := Lib.hid (show fnFault l k = nameFault k by simp [fnFault, h1])
    clear h1
    go_enter Tryz.func28, Tryz.ntmps28
    go_wp2_with (first
      | (go_at_call 44; refine (forestCheck_ok _ A l c Ha.out).mono ?_; rintro e w1 ⟨rfl, hb1⟩)
      | (go_at_call 45; refine (forestName_ok _ K k c1).mono ?_; rintro e w2 ⟨rfl, rfl⟩))
    go_ret
    exact ⟨ret_int Hv.out.symm, hb1⟩
  · have b1 : (forestFaultS l == 0) = false := by simp [h1]
    have b2 : (forestFaultS l != 0) = true := by simpa using h1
    have Hv := Lib.hid (show fnFault l k = forestFaultS l by simp [fnFault, h1])
    clear h1
    go_enter Tryz.func28, Tryz.ntmps28
    go_wp2_with (go_at_call 44; refine (forestCheck_ok _ A l c Ha.out).mono ?_; rintro e w1 ⟨rfl, hb1⟩)
    go_ret
    exact ⟨ret_int Hv.out.symm, hb1⟩

set_option maxRecDepth 100000 in
set_option maxHeartbeats 1000000 in
theorem forestGet_ok (w : World) (A : Option Addr) (l : List Tn) (c : Nat) (N : Option Addr) (n : List UInt8) (cn : Nat) (K : Option Addr) (k : List UInt8) (c1 : Nat) (ha : Ts All w A l) (hn : Bs All w N n) (hk : Bs All w K k) :
    Calls Tryz.prog 12 #[.slice A l.length c, .slice N n.length cn, .slice K k.length c1] w (RetGet w (forestGetS l n k)) := by
  have Ha := Lib.hid ha
  have Hn := Lib.hid hn
  have Hk := Lib.hid hk
  clear ha hn hk
  by_cases h1 : fnFault l n = 0
  · have b2 : (fnFault l n != 0) = false := by simp [h1]
    have Hv := Lib.hid (show forestGetS l n k = getS (pairsOfS l n) k by simp [forestGetS, h1])
    obtain ⟨hl8, _, hrise⟩ := ten_fine (fn_fine h1).1
    have Hl8 := Lib.hid hl8
    have Hr := Lib.hid hrise
    clear h1 hl8 hrise
    go_enter Tryz.func12, Tryz.ntmps12
    go_wp2_with (go_at_call 28; refine (forestChecked_ok _ A l c N n cn (Ha.out.below tenR_stays ?_)).mono ?_; (repeat' (first | exact Below.refl _ _ | assumption | refine Below.drew ?_ | refine below_drewN ?_ _ | refine Below.alloc ?_ (by first | exact Nat.le_refl _ | omega | (simp; done) | (simp; omega)) _)); rintro e w1 ⟨rfl, hb1⟩)
    have hx1 := (hb1.block w.heap.size (by first | (simp; done) | omega | (simp; omega))).trans (box_new w _ _)
    have hz1 : w.heap.size < w1.heap.size := by have := hb1.size; simp at this; omega
    have hb01 : Below w.heap.size w w1 := Below.next ((Below.refl _ _).alloc (Nat.le_refl _) _) hb1 (by first | (simp; done) | omega | (simp; omega))
    have Hx1 := Lib.hid hx1
    have Hb1 := Lib.hid hb01
    clear hb1 hx1 hb01 b2
    refine (forestPairs_ok _ A l c N n cn (Ha.out.below tenR_stays Hb1.out) (Hn.out.bbelow Hb1.out) (by have := Hl8.out; omega) Hr.out).mono ?_
    rintro e w2 ⟨A2, c2, rfl, hs2, hl2, hcap2, hb2⟩
    have hx2 := (hb2.block w.heap.size hz1).trans Hx1.out
    have hb02 := Hb1.out.next hb2 (by omega)
    have hz2 := hb2.size
    have Hs2 := Lib.hid hs2
    have Hx2 := Lib.hid hx2
    have Hb2 := Lib.hid hb02
    clear hs2 hb2 hx2 hb02
    go_wp2_with fail
    refine (treeGet_ok _ A2 (pairsOfS l n) c2 K k c1 Hs2.out (Hk.out.bbelow Hb2.out)).mono ?_
    rintro e w3 ⟨A3, c3, rfl, hs3, hb3⟩
    obtain ⟨g0, g1, f0, f1⟩ := box2 ((hb3.block w.heap.size (by omega)).trans Hx2.out)
    have hz3 := hb3.size
    have hz03 : w.heap.size < w3.heap.size := by omega
    have Hb3 := Lib.hid (Hb2.out.next hb3 (by omega))
    have Hs3 := Lib.hid hs3
    generalize getS (pairsOfS l n) k = r at *
    obtain ⟨⟨rf, rv⟩, re⟩ := r
    clear hb3 hs3
    go_wp2
    refine bodyPost_ret (v := .tuple #[.agg #[.bool rf, .slice A3 rv.length c3], .int .i64 re]) (by simp [results, Tryz.results12, go_sem, g0, g1, hz03]) rfl ?_
    rw [Hv.out]
    exact ⟨A3, c3, rfl, (Hs3.out.bsame (((Same.refl _ _).setCell (fun hq => by simp only [From] at hq; omega) _).setCell (fun hq => by simp only [From] at hq; omega) _)).blo (by omega), Below.setCell (Below.setCell Hb3.out (Nat.le_refl _) _) (Nat.le_refl _) _⟩
  · have b2 : (fnFault l n != 0) = true := by simpa using h1
    have Hv := Lib.hid (show forestGetS l n k = ((false, []), fnFault l n) by simp [forestGetS, h1])
    clear h1
    go_enter Tryz.func12, Tryz.ntmps12
    go_wp2_with (go_at_call 28; refine (forestChecked_ok _ A l c N n cn (Ha.out.below tenR_stays ?_)).mono ?_; (repeat' (first | exact Below.refl _ _ | assumption | refine Below.drew ?_ | refine below_drewN ?_ _ | refine Below.alloc ?_ (by first | exact Nat.le_refl _ | omega | (simp; done) | (simp; omega)) _)); rintro e w1 ⟨rfl, hb1⟩; obtain ⟨g0, g1, f0, f1⟩ := box2 ((hb1.block w.heap.size (by first | (simp; done) | omega | (simp; omega))).trans (box_new w _ _)))
    refine bodyPost_ret (v := .tuple #[.agg #[.bool false, .slice none 0 0], .int .i64 (fnFault l n)]) (by simp [results, Tryz.results12, go_sem, g0, g1]) rfl ?_
    rw [Hv.out]
    exact ⟨none, 0, rfl, SL.nil, Below.setCell (Below.setCell (Below.next ((Below.refl _ _).alloc (Nat.le_refl _) _) hb1 (by first | (simp; done) | omega | (simp; omega))) (Nat.le_refl _) _) (Nat.le_refl _) _⟩

end Go.Proofs.YthohkgggodhbcaaGreat
namespace Go.Proofs.YthohkgggodhbcaaGreat
open Go.RowKit
set_option linter.unusedVariables false
set_option linter.unusedSimpArgs false

theorem forestCopy_ok (w : World) (A : Option Addr) (l : List Tn) (c : Nat) (ha : Ts All w A l) (hn : l.length * 48 ≤ 140737488355328) :
    Calls Tryz.prog 73 #[.slice A l.length c] w (RetSLc 2 TenR w l) :=
  (forestCopy_own w A l c ha hn).mono fun _ _ ⟨_, he, h, hb⟩ => by
    obtain ⟨A', c', rfl, hcap, hsl⟩ := h.readc tenR_stays
    exact ⟨A', c', he, hcap, hsl, hb⟩
theorem forestRangeS_len (l : List Tn) (n k m : List UInt8) : (forestRangeS l n k m).1.length ≤ (pairsOfS l n).length := by
  unfold forestRangeS
  split
  · simp
  · unfold rangeS
    split
    · simp
    · exact List.length_filter_le _ _
theorem range_fine_len {l : List Tn} {n k m : List UInt8} : (forestRangeS l n k m).1.length ≤ 60 := by
  by_cases h1 : fnFault l n = 0
  · unfold forestRangeS rangeS
    rw [if_neg (by simpa using h1)]
    by_cases h2 : rangeFault (pairsOfS l n) k m = 0
    · rw [if_neg (by simpa using h2)]
      have : pairsFaultS (pairsOfS l n) = 0 := by
        unfold rangeFault at h2
        split at h2
        · rename_i h3; exact absurd h2 h3
        · rename_i h3; simpa using h3
      have h4 := (pairs_fine this).1
      have h5 := List.length_filter_le (inRange k m) (pairsOfS l n)
      show ((pairsOfS l n).filter (inRange k m)).length ≤ 60
      omega
    · rw [if_pos h2]; simp
  · unfold forestRangeS
    rw [if_pos h1]; simp
end Go.Proofs.YthohkgggodhbcaaGreat
namespace Go.Proofs.YthohkgggodhbcaaGreat
open Go.RowKit
set_option linter.unusedVariables false
set_option linter.unusedSimpArgs false

theorem Own.same_from {α : Type} {size : Nat} {R : (Nat → Prop) → World → List Value → α → Prop} {w w' : World} {base : Nat} {e : TypeId} {v : Value} {l : List α} (hR : Stays R) (h : Own size R (From base) w base e v l) (hb : Same (From base) w w') : Own size R (From base) w' base e v l := by
  obtain ⟨xs, h1, h2⟩ := h
  refine ⟨xs, ⟨h1.1, ?_⟩, fun i hi => hR.same _ _ _ _ _ ⟨hb.size, fun k hk hk' => hb.block k hk.1 hk'⟩ (h2 i hi)⟩
  rcases h1.2 with hn | ⟨g, cap, cur, hv, hb', hh, rest⟩
  · exact .inl hn
  · exact .inr ⟨g, cap, cur, hv, hb', by rw [hb.block g hb' (Array.getElem?_eq_some_iff.1 hh).1]; exact hh, rest⟩
set_option maxRecDepth 100000 in
set_option maxHeartbeats 4000000 in
theorem forestOwn_own (w : World) (A : Option Addr) (l : List Tn) (c : Nat) (ha : Ts All w A l) (hn : l.length * 48 ≤ 140737488355328) :
    Calls Tryz.prog 53 #[.slice A l.length c] w (RetOwnTs w l) := by
  obtain ⟨i0, hi0, hz0, hz1, hz2⟩ := info_parts info_ten
  obtain ⟨j0, hj0, hy0, hy1, hy2⟩ := info_parts info_pair
  have Ha := Lib.hid ha
  clear ha
  go_enter Tryz.func53, Tryz.ntmps53
  go_wp2
  go_loopw [3, 11] (fun v i wr => ∃ k : Nat, k ≤ l.length ∧ i = .int .i64 k ∧ Own 2 TenR (From w.heap.size) wr w.heap.size 48 v (l.take k) ∧ Below w.heap.size w wr) (fun _ i _ => l.length - (intOf i).toNat)
  case atStart => exact ⟨0, by omega, rfl, Own.nil _ _ _, Below.refl _ _⟩
  case round =>
    obtain ⟨k, hk, rfl, hown, hbel⟩ := hrel
    have Hbel := Lib.hid hbel
    have Hown := Lib.hid hown
    have hbz := hbel.size
    clear hown hbel
    by_cases hlt : k < l.length
    · obtain ⟨ab, ao, K, c1, V, d1, rfl, _, hal, hc1, hc2, hs1, hs2, hb1, hb2, _⟩ := tens_at Ha.out hlt
      replace hc1 := (Hbel.out.cell (p := ⟨ab, ao + k * 2, none⟩) hal).trans hc1
      replace hc2 := (Hbel.out.cell (p := ⟨ab, ao + k * 2 + 1, none⟩) hal).trans hc2
      have Hs1 := Lib.hid hs1
      have Hs2 := Lib.hid (hs2.z pairR_stays)
      have Hsn := Lib.hid (take_snoc l k hlt)
      generalize l[k] = x at *
      have hi0' : (0 : Int) ≤ (k : Int) := by omega
      have hi1 : (k : Int) < (l.length : Int) := by omega
      clear hs1 hs2
      go_wp2_with (go_at_call 23; (with_reducible refine (clone_ok _ K x.1 c1 ?ha hb1).mono ?_); (case ha => exact ((Hs1.out.bz.bbelow Hbel.out).bsame (by repeat' (first | exact Same.refl _ _ | assumption | refine Same.drew ?_ | refine Same.drewN ?_ _ | refine Same.alloc ?_ _ | refine Same.setCell ?_ (fun hq => by simp only [From] at hq; first | omega | (simp at hq; done) | (simp at hq; omega)) _)))); rintro e w1 ⟨A1, c3, rfl, gs1, hbw1⟩; have hx1 : w1.heap[wr.heap.size]? = some (.cells #[.slice K x.1.length c1, .slice V x.2.length d1] 48 (0, 0)) := (hbw1.block wr.heap.size (by first | (simp; done) | omega | (simp; omega))).trans (box_new wr _ _); have hzw1 : wr.heap.size < w1.heap.size := (by have := hbw1.size; simp at this; omega); obtain ⟨g0, g1, _, _⟩ := box2 hx1)
      have hb01 : Below wr.heap.size wr w1 := ((Below.refl wr.heap.size wr).alloc (Nat.le_refl _) _).next hbw1 (by simp)
      have hx5 : (w1.alloc (.cells #[.slice A1 x.1.length c3, .slice none 0 0] 48)).heap[w1.heap.size]? = some (.cells #[.slice A1 x.1.length c3, .slice none 0 0] 48 (0, 0)) := box_new w1 _ _
      have hb15 : Below w1.heap.size w1 (w1.alloc (.cells #[.slice A1 x.1.length c3, .slice none 0 0] 48)) := (Below.refl _ _).alloc (Nat.le_refl _) _
      have hz5 : (w1.alloc (.cells #[.slice A1 x.1.length c3, .slice none 0 0] 48)).heap.size = w1.heap.size + 1 := by simp
      generalize w1.alloc (.cells #[.slice A1 x.1.length c3, .slice none 0 0] 48) = w5 at *
      have Hz5 := Lib.hid hz5
      have hz5' : w1.heap.size < w5.heap.size := by omega
      have Hx5 := Lib.hid hx5
      have Hb15 := Lib.hid hb15
      have Hb01 := Lib.hid hb01
      have Gs1 := Lib.hid gs1
      clear hz5 hx5 hb15 hb01 hbw1 gs1 hx1 g0 g1 hc1 hc2
      obtain ⟨wm, rfl⟩ : ∃ wm : World, wm = wr := ⟨_, rfl⟩
      go_loopw [22] (fun i wr => ∃ (j : Nat) (v : Value), j ≤ x.2.length ∧ i = .int .i64 j ∧ Own 2 PairR (From w5.heap.size) wr w5.heap.size 50 v (x.2.take j) ∧ wr.heap[w1.heap.size]? = some (.cells #[.slice A1 x.1.length c3, v] 48 (0, 0)) ∧ Below w1.heap.size w5 wr) (fun i _ => x.2.length - (intOf i).toNat)
      case atStart => exact ⟨0, _, by omega, rfl, Own.nil _ _ _, Hx5.out, Below.refl _ _⟩
      case round =>
        obtain ⟨j, v, hj, rfl, hown2, hcx, hbel2⟩ := hrel
        have Hbel2 := Lib.hid hbel2
        have Hown2 := Lib.hid hown2
        have Hcx := Lib.hid hcx
        have hbz2 := hbel2.size
        have hb5 : Below wm.heap.size wm wr := (Hb01.out.next Hb15.out (by omega)).trans (hbel2.mono (by omega))
        have Hb5 := Lib.hid hb5
        have Hb0 := Lib.hid (Hbel.out.trans (hb5.mono hbz))
        clear hown2 hbel2 hcx hb5
        by_cases hlt2 : j < x.2.length
        · obtain ⟨pb, po, K2, c2, V2, d2, rfl, _, hpl, hp1, hp2, hq1, hq2, hqb1, hqb2⟩ := pairs_at (Hs2.out.below pairR_stays Hb0.out) hlt2
          have Hsn2 := Lib.hid (take_snoc x.2 j hlt2)
          generalize x.2[j] = q at *
          have Hq1 := Lib.hid hq1.bz
          have Hq2 := Lib.hid hq2.bz
          have hj0' : (0 : Int) ≤ (j : Int) := by omega
          have hj1 : (j : Int) < (x.2.length : Int) := by omega
          have hl8 : (x.2.take j ++ [q]).length = j + 1 := by rw [List.length_append, List.length_take, List.length_singleton]; omega
          clear hq1 hq2
          have hbox : (wr.alloc (.cells #[.slice K2 q.1.length c2, .slice V2 q.2.length d2] 50)).heap[w1.heap.size]? = some (.cells #[.slice A1 x.1.length c3, v] 48 (0, 0)) := by rw [heap_alloc_old _ _ (by omega)]; exact Hcx.out
          obtain ⟨gc0, gc1, _, _⟩ := box2 hbox
          have Hbox := Lib.hid hbox
          clear hbox
          go_wp2_with fail
          go_region_law (first
            | (go_simp; go_at_call 23; (with_reducible refine (clone_ok _ K2 q.1 c2 ?ha hqb1).mono ?_); (case ha => exact Hq1.out.bsame (by repeat' (first | exact Same.refl _ _ | assumption | refine Same.drew ?_ | refine Same.drewN ?_ _ | refine Same.alloc ?_ _ | refine Same.setCell ?_ (fun hq => by simp only [From] at hq; first | omega | (simp at hq; done) | (simp at hq; omega)) _))); rintro e w6 ⟨A6, c6, rfl, gs6, hbw6⟩; have hb6 : Below wr.heap.size wr w6 := (((Below.refl wr.heap.size wr).alloc (Nat.le_refl _) _).drew).next hbw6 (by simp); have hz6 : wr.heap.size < w6.heap.size := (by have := hbw6.size; simp at this; omega); have hbx6 : w6.heap[w1.heap.size]? = some (.cells #[.slice A1 x.1.length c3, v] 48 (0, 0)) := (hb6.block _ (by omega)).trans Hcx.out; obtain ⟨ga0, ga1, _, _⟩ := box2 hbx6; have hbp6 : w6.heap[wr.heap.size]? = some (.cells #[.slice K2 q.1.length c2, .slice V2 q.2.length d2] 50 (0, 0)) := (hbw6.block wr.heap.size (by first | (simp; done) | omega | (simp; omega))).trans (box_new wr _ _); obtain ⟨gb0, gb1, _, _⟩ := box2 hbp6; have hz16 : w1.heap.size < w6.heap.size := (by omega))
            | (go_simp; go_at_call 23; (with_reducible refine (clone_ok _ V2 q.2 d2 ?ha hqb2).mono ?_); (case ha => exact Hq2.out.bbelow hb6); rintro e w7 ⟨A7, c7, rfl, gs7, hbw7⟩; have hb7 : Below wr.heap.size wr w7 := hb6.next hbw7 (by first | exact Nat.le_refl _ | omega | (simp; done) | (simp; omega)); have hz7 : w6.heap.size ≤ w7.heap.size := hbw7.size; have hz17 : w1.heap.size < w7.heap.size := (by omega); have hbx7 : w7.heap[w1.heap.size]? = some (.cells #[.slice A1 x.1.length c3, v] 48 (0, 0)) := (hb7.block _ (by omega)).trans Hcx.out; obtain ⟨gd0, gd1, _, _⟩ := box2 hbx7; have hbp7 : w7.heap[wr.heap.size]? = some (.cells #[.slice K2 q.1.length c2, .slice V2 q.2.length d2] 50 (0, 0)) := (hbw7.block _ hz6).trans hbp6; obtain ⟨gf0, gf1, _, _⟩ := box2 hbp7)
            | (refine step_snocG pairR_stays (S := From w5.heap.size) _ rfl (.tmp 27) (.tmp 35) _ rfl w5.heap.size 50 j0 _ 2 48 Tryz.underlying46 hj0 hy0 hy1 hy2 rfl (by decide) v (x.2.take j) ?hs ?hown (some ⟨w7.heap.size, 0, none⟩) 1 [.slice A6 q.1.length c6, .slice A7 q.2.length c7] ?hx rfl (new_src w7 w7.heap.size [.slice A6 q.1.length c6, .slice A7 q.2.length c7] _ rfl) (by simp [Value.oneCell']) ?hm ?hby ?hba q ?hd ?_; (case hs => (simp [Act.eval, Act.put])); (case hx => (simp [Act.eval, Act.put])); (case hown => (refine Own.below pairR_stays Hown2.out ?_; exact (hb7.alloc (by first | exact Nat.le_refl _ | omega | (simp; done) | (simp; omega)) _))); (case hm => (simp only [List.length_take, maxLen]; omega)); (case hby => (simp only [List.length_take]; omega)); (case hba => (simp; omega)); (case hd => (refine pair_fresh (n := wr.heap.size) (gs6.bbelow hbw7 |>.blo (by first | exact Nat.le_refl _ | omega | (simp; done) | (simp; omega))) (gs7.blo (by first | exact Nat.le_refl _ | omega | (simp; done) | (simp; omega))) hqb1 hqb2 ?_ (by first | exact Nat.le_refl _ | omega | (simp; done) | (simp; omega)) (Hown2.out.apart _ (Nat.le_refl _)); repeat' (first | exact Same.refl _ _ | assumption | refine Same.drew ?_ | refine Same.drewN ?_ _ | refine Same.alloc ?_ _ | refine Same.setCell ?_ (fun hq => by simp only [From] at hq; first | omega | (simp at hq; done) | (simp at hq; omega)) _))); intro v8 w8 hown8 hbw8 hgr8; have hbp8 : w8.heap[wr.heap.size]? = some (.cells #[.slice K2 q.1.length c2, .slice V2 q.2.length d2] 50 (0, 0)) := (hgr8.block _ (by simp; omega) (fun e => Hown2.out.apart _ (Nat.le_refl _) _ (Nat.le_refl _) e.symm)).trans ((heap_alloc_old _ _ (by omega)).trans hbp7); obtain ⟨gh0, gh1, _, _⟩ := box2 hbp8; obtain ⟨A8, c8, rfl, _, _⟩ := hown8.readc pairR_stays; have Hown8 := Lib.hid hown8; clear hown8; have hbx8 : w8.heap[w1.heap.size]? = some (.cells #[.slice A1 x.1.length c3, v] 48 (0, 0)) := (hbw8.block _ hz5').trans ((heap_alloc_old _ _ (by first | exact Nat.le_refl _ | omega | (simp; done) | (simp; omega))).trans hbx7); obtain ⟨ge0, ge1, ge2, ge3⟩ := box2 hbx8))
          all_goals
            go_wp2
            go_roundw
            case rel => exact ⟨j + 1, _, by omega, by go_num, by rw [Hsn2.out]; exact Hown8.out.same_from pairR_stays ((Same.refl _ _).setCell (fun h => by simp only [From] at h; omega) _), by rw [heap_setCell_same _ _ _ _ _ _ hbx8, hl8]; rfl, (((Hbel2.out.trans (hb7.mono (by omega))).alloc (by omega) _).trans (hbw8.mono (by omega))).setCell (Nat.le_refl _) _⟩
            case measure => simp [intOf]; omega
        · obtain rfl : j = x.2.length := by omega
          have hfull : x.2.take x.2.length = x.2 := List.take_length
          have hown3 := Hown2.out
          rw [hfull] at hown3
          obtain ⟨A8, c8, rfl, hc8, hs8⟩ := hown3.readc pairR_stays
          have Hs8 := Lib.hid hs8
          obtain ⟨ge0, ge1, _, _⟩ := box2 Hcx.out
          have Gs1' := Lib.hid (Gs1.out.bbelow (Hb15.out.trans Hbel2.out))
          clear hs8 hown3 hfull Hown2
          go_wp2_with (at_builtin; refine wpl_snoc tenR_stays (S := From w.heap.size) _ rfl (.tmp 39) (.tmp 41) _ rfl w.heap.size 48 i0 _ 2 48 Tryz.underlying34 hi0 hz0 hz1 hz2 rfl (by decide) _ (l.take k) rfl ?hown _ _ [.slice A1 x.1.length c3, .slice A8 x.2.length c8] rfl rfl (new_src _ _ [.slice A1 x.1.length c3, .slice A8 x.2.length c8] _ (by simp)) (by simp [Value.oneCell']) ?hm ?hby ?hba x ?hd ?_; (case hown => exact Hown.out.below tenR_stays (Hb5.out.alloc (by first | exact Nat.le_refl _ | omega | (simp; done) | (simp; omega)) _)); (case hm => (simp only [List.length_take, maxLen]; omega)); (case hby => (simp only [List.length_take]; omega)); (case hba => (simp; omega)); (case hd => (refine ten_fresh (n := wm.heap.size) (Gs1'.out.blo (by simp)) (Hs8.out.lo pairR_stays (by omega)) hb1 hb2 hc8 ?_ (by first | exact Nat.le_refl _ | omega | (simp; done) | (simp; omega)) (Hown.out.apart _ (Nat.le_refl _)); repeat' (first | exact Same.refl _ _ | assumption | refine Same.drew ?_ | refine Same.drewN ?_ _ | refine Same.alloc ?_ _ | refine Same.setCell ?_ (fun hq => by simp only [From] at hq; first | omega | (simp at hq; done) | (simp at hq; omega)) _))); intro v9 w9 hown9 hbw9)
          go_roundw
          case rel => exact ⟨k + 1, by omega, by go_num, by rw [Hsn.out]; exact hown9, (Hb0.out.alloc (by first | exact Nat.le_refl _ | omega | (simp; done) | (simp; omega)) _).trans hbw9⟩
          case measure => simp [intOf]; omega
    · go_wp2
      go_ret
      obtain rfl : k = l.length := by omega
      have h := Hown.out
      rw [List.take_length] at h
      exact ⟨_, rfl, h, Hbel.out⟩
end Go.Proofs.YthohkgggodhbcaaGreat
namespace Go.Proofs.YthohkgggodhbcaaGreat
open Go.RowKit
set_option linter.unusedVariables false
set_option linter.unusedSimpArgs false

end Go.Proofs.YthohkgggodhbcaaGreat
