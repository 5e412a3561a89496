/- Walks: tenants copied, by the references and by package forest. -/
import Derived.Test.YthhcdibimnifaaaTen
import Derived.Test.YthhcdibimnifaaaCopy
import Derived.Test.YthhcdibimnifaaaChunk
namespace Go.Proofs.Ythhcdibimnifaaa
open Go.RowKit
set_option linter.unusedVariables false
set_option linter.unusedSimpArgs false

/-- An append of one element as a step of a region that draws. -/
theorem step_snoc {P : Program} {α : Type} {R : (Nat → Prop) → World → List Value → α → Prop} (hR : Stays R) {S : Nat → Prop} (w : World) {ops : Array Oper} {o : Oper} {a : Act} {K : Act → World → Prop} {Q : Exit → Act → World → Prop} {E : Prop} (hgd : o.guard = none) (s x : Operand) (t : TypeId)
    (ho : o.op = .call { callee := .builtin .append, args := #[s, x], argTypes := #[t, t] })
    (base : Nat) (e : TypeId) (i : TypeInfo) (z : Value) (size bytes : Nat) (ht : P.underlying t = some (.slice e)) (hi : P.info? e = some i) (hz : i.zero = some z)
    (hsize : i.size = size) (hby : i.bytes = bytes) (hzs : z.cells.size = size) (hsz : 0 < size)
    (v : Value) (l : List α) (hs : a.eval s = v) (hown : Own size R S w base e v l)
    (A : Option Addr) (c : Nat) (cs : List Value) (hx : a.eval x = .slice A 1 c) (hl : cs.length = size) (hsrc : ∃ ad, A = some ad ∧ ∀ j u, cs[j]? = some u → w.cell? (ad.add j) = some u) (h1 : ∀ u ∈ cs, u.oneCell' = true)
    (h63 : l.length + 1 ≤ maxLen) (hbytes : (l.length + 1) * bytes ≤ 140737488355328) (hbase : base ≤ w.heap.size)
    (d : α) (hd : R (fun b => S b ∧ v.ownBlock ≠ some b) w cs d)
    (h : ∀ v' w', Own size R S w' base e v' (l ++ [d]) → Below base w w' → K (a.put o.dst v') w') : if Region.wanted o (yielded ops a.tmps) = true then Oper.wp P o a w K Q else E := by
  have hw : Region.wanted o (yielded ops a.tmps) = true := by simp [Region.wanted, hgd]
  rw [if_pos hw]
  obtain ⟨xs, hx1, hx2⟩ := hown
  exact wp_app w s x t ho base e i z size bytes ht hi hz hsize hby hzs hsz v l.length xs hs hx1 A 1 c cs hx (by omega) (fun _ => hsrc) h1 h63 hbytes hbase
    fun v' w' g1 g2 g3 => h v' w' (Own.snoc hR hx2 hx1 g1 g2 g3 hd hl) (own_below hx1 g2 hbase)
/-- .. and what it writes: the row alone. -/
theorem step_snocG {P : Program} {α : Type} {R : (Nat → Prop) → World → List Value → α → Prop} (hR : Stays R) {S : Nat → Prop} (w : World) {ops : Array Oper} {o : Oper} {a : Act} {K : Act → World → Prop} {Q : Exit → Act → World → Prop} {E : Prop} (hgd : o.guard = none) (s x : Operand) (t : TypeId)
    (ho : o.op = .call { callee := .builtin .append, args := #[s, x], argTypes := #[t, t] })
    (base : Nat) (e : TypeId) (i : TypeInfo) (z : Value) (size bytes : Nat) (ht : P.underlying t = some (.slice e)) (hi : P.info? e = some i) (hz : i.zero = some z)
    (hsize : i.size = size) (hby : i.bytes = bytes) (hzs : z.cells.size = size) (hsz : 0 < size)
    (v : Value) (l : List α) (hs : a.eval s = v) (hown : Own size R S w base e v l)
    (A : Option Addr) (c : Nat) (cs : List Value) (hx : a.eval x = .slice A 1 c) (hl : cs.length = size) (hsrc : ∃ ad, A = some ad ∧ ∀ j u, cs[j]? = some u → w.cell? (ad.add j) = some u) (h1 : ∀ u ∈ cs, u.oneCell' = true)
    (h63 : l.length + 1 ≤ maxLen) (hbytes : (l.length + 1) * bytes ≤ 140737488355328) (hbase : base ≤ w.heap.size)
    (d : α) (hd : R (fun b => S b ∧ v.ownBlock ≠ some b) w cs d)
    (h : ∀ v' w', Own size R S w' base e v' (l ++ [d]) → Below base w w' → w.grownBy w' v.ownBlock → K (a.put o.dst v') w') : if Region.wanted o (yielded ops a.tmps) = true then Oper.wp P o a w K Q else E := by
  have hw : Region.wanted o (yielded ops a.tmps) = true := by simp [Region.wanted, hgd]
  rw [if_pos hw]
  obtain ⟨xs, hx1, hx2⟩ := hown
  exact wp_app w s x t ho base e i z size bytes ht hi hz hsize hby hzs hsz v l.length xs hs hx1 A 1 c cs hx (by omega) (fun _ => hsrc) h1 h63 hbytes hbase
    fun v' w' g1 g2 g3 => h v' w' (Own.snoc hR hx2 hx1 g1 g2 g3 hd hl) (own_below hx1 g2 hbase) g2
/-- A new tenant's cells, as what they say behind more allocations. -/
theorem ten_fresh {n base : Nat} {w W : World} {v : Value} {A B : Option Addr} {t : Tn} {c d : Nat} (h1 : Bs (From n) w A t.1) (h2 : Ps (From n) w B t.2) (g1 : t.1.length ≤ big) (g2 : t.2.length * 48 ≤ 140737488355328) (g3 : t.2.length ≤ d) (hs : Same (From n) w W) (hb : base ≤ n) (hap : ∀ b, From n b → v.ownBlock ≠ some b) :
    TenR (fun b => From base b ∧ v.ownBlock ≠ some b) W [.slice A t.1.length c, .slice B t.2.length d] t :=
  ⟨A, c, B, d, rfl, (h1.bsame hs).bless fun b _ h => ⟨Nat.le_trans hb h, hap b h⟩, (h2.same pairR_stays hs).less pairR_stays fun b _ h => ⟨Nat.le_trans hb h, hap b h⟩, g1, g2, g3⟩
/-- The call returns tenants in a row of its own. -/
def RetOwnTs (w : World) (l : List Tn) (e : Ending) (w' : World) : Prop :=
  ∃ v, e = .returned v ∧ Own 2 TenR (From w.heap.size) w' w.heap.size 122 v l ∧ Below w.heap.size w w'

set_option maxRecDepth 100000 in
set_option maxHeartbeats 1000000 in
theorem forestCopy_own (w : World) (A : Option Addr) (l : List Tn) (c : Nat) (ha : Ts All w A l) (hn : l.length * 48 ≤ 140737488355328) :
    Calls Try.prog 104 #[.slice A l.length c] w (RetOwnTs w l) := by
  obtain ⟨i0, hi0, hz0, hz1, hz2⟩ := info_parts info_ten
  have Ha := Lib.hid ha
  clear ha
  go_enter Try.func104, Try.ntmps104
  go_wp2
  go_loopw [3, 4] (fun v i wr => ∃ k : Nat, k ≤ l.length ∧ i = .int .i64 k ∧ Own 2 TenR (From w.heap.size) wr w.heap.size 122 v (l.take k) ∧ Below w.heap.size w wr) (fun _ i _ => l.length - (intOf i).toNat)
  case atStart => exact ⟨0, by omega, rfl, Own.nil _ _ _, Below.refl _ _⟩
  case round =>
    obtain ⟨k, hk, rfl, hown, hbel⟩ := hrel
    have Hbel := Lib.hid hbel
    have Hown := Lib.hid hown
    have hbz := hbel.size
    clear hown hbel
    by_cases hlt : k < l.length
    · obtain ⟨ab, ao, K, c1, V, d1, rfl, _, hal, hc1, hc2, hs1, hs2, hb1, hb2, _⟩ := tens_at Ha.out hlt
      have Hc := Lib.hid (show ∀ W, Below w.heap.size w W → W.cell? ⟨ab, ao + k * 2, none⟩ = some (.slice K l[k].1.length c1) ∧ W.cell? ⟨ab, ao + k * 2 + 1, none⟩ = some (.slice V l[k].2.length d1) from fun W hW => ⟨(hW.cell hal).trans hc1, (hW.cell hal).trans hc2⟩)
      clear hc1 hc2
      obtain ⟨hc1, hc2⟩ := Hc.out wr Hbel.out
      have Hsn := Lib.hid (take_snoc l k hlt)
      generalize l[k] = x at *
      have hi0' : (0 : Int) ≤ (k : Int) := by omega
      have hi1 : (k : Int) < (l.length : Int) := by omega
      go_wp2_with fail
      go_region_held3 (fun w' => w'.cell? ⟨ab, ao + k * 2, none⟩ = some (.slice K x.1.length c1) ∧ w'.cell? ⟨ab, ao + k * 2 + 1, none⟩ = some (.slice V x.2.length d1))
        (first
          | go_keep
          | exact Hc.out _ hk3
          | exact Hc.out _ hk2
          | exact Hc.out _ hk1)
        (first
          | (go_at_call 90; (with_reducible refine (joinedNil_ok _ K x.1 c1 ?ha hb1).mono ?_); (case ha => exact (hs1.bz.bbelow Hbel.out).bsame (by repeat' (first | exact Same.refl _ _ | assumption | refine Same.drew ?_ | refine Same.drewN ?_ _ | refine Same.alloc ?_ _ | refine Same.setCell ?_ (fun hq => by simp only [From] at hq; first | omega | (simp at hq; done) | (simp at hq; omega)) _))); rintro e w1 ⟨A1, c3, rfl, gs1, hbw1⟩; have hk1 : Below w.heap.size w w1 := Hbel.out.drew.next hbw1 (by first | exact Nat.le_refl _ | omega | (simp; done) | (simp; omega)); have hzw1 : wr.heap.size ≤ w1.heap.size := (by simpa using hbw1.size))
          | (go_at_call 87; (with_reducible refine (pairsCopy_cap _ V x.2 d1 ?ha hb2).mono ?_); (case ha => exact (hs2.z pairR_stays).below pairR_stays hk1); rintro e w2 ⟨A2, d3, rfl, gc2, gs2, hbw2⟩; have hzw2 : w1.heap.size ≤ w2.heap.size := hbw2.size; have hk2 : Below w.heap.size w w2 := hk1.next hbw2 (by first | exact Nat.le_refl _ | omega | (simp; done) | (simp; omega)))
          | (refine step_snoc tenR_stays (S := From w.heap.size) _ rfl (.tmp 11) (.tmp 25) _ rfl w.heap.size 122 i0 _ 2 48 Try.underlying43 hi0 hz0 hz1 hz2 rfl (by decide) _ (l.take k) rfl ?hown _ _ [.slice A1 x.1.length c3, .slice A2 x.2.length d3] rfl rfl (new_src _ _ [.slice A1 x.1.length c3, .slice A2 x.2.length d3] _ (by simp)) (by simp [Value.oneCell']) ?hm ?hby ?hba x ?hd ?_; (case hown => (refine Own.below tenR_stays Hown.out ?_; refine ((Below.refl wr.heap.size wr).drew.next hbw1 (by first | exact Nat.le_refl _ | omega | (simp; done) | (simp; omega))).next hbw2 (by first | exact Nat.le_refl _ | omega | (simp; done) | (simp; omega)) |>.alloc (by first | exact Nat.le_refl _ | omega | (simp; done) | (simp; omega)) _)); (case hm => (simp only [List.length_take, maxLen]; omega)); (case hby => (simp only [List.length_take]; omega)); (case hba => (simp; omega)); (case hd => (refine ten_fresh (n := wr.heap.size) (gs1.bbelow hbw2) (gs2.lo pairR_stays hzw1) hb1 hb2 gc2 ?_ (by first | exact Nat.le_refl _ | omega | (simp; done) | (simp; omega)) (Hown.out.apart _ (Nat.le_refl _)); repeat' (first | exact Same.refl _ _ | assumption | refine Same.drew ?_ | refine Same.drewN ?_ _ | refine Same.alloc ?_ _ | refine Same.setCell ?_ (fun hq => by simp only [From] at hq; first | omega | (simp at hq; done) | (simp at hq; omega)) _))); intro v1 w3 hown3 hbw3; have hk3 : Below w.heap.size w w3 := (hk2.alloc (by first | exact Nat.le_refl _ | omega | (simp; done) | (simp; omega)) _).trans hbw3))
      go_wp2
      go_roundw
      case rel => exact ⟨k + 1, by omega, by go_num, by rw [Hsn.out]; exact hown3, hk3⟩
      case measure => simp [intOf]; omega
    · go_wp2
      go_ret
      obtain rfl : k = l.length := by omega
      have h := Hown.out
      rw [List.take_length] at h
      exact ⟨_, rfl, h, Hbel.out⟩
end Go.Proofs.Ythhcdibimnifaaa
