/- Words for memory that all texts of this seat share: what a slice reads as, and small lemmas. No condition. -/
import Derived.Test.YtjgdeeabejoegaaDoorProg
import Derived.WalkKit
import Derived.WalkSpells
import Derived.WalkLawsBesides
import Derived.WalkSmall
import Derived.Outline
import Derived.Deep.QuietTactic
import Derived.BigQuiet
import Derived.Deep.RegionHeld3
import Derived.Lib.Hide
import Derived.Maps.AppendAt
import Derived.Deep.AppendLies
namespace Go.Proofs.YtjgdeeabejoegaaDoor
open Go.RowKit
set_option linter.unusedVariables false
set_option linter.unusedSimpArgs false

theorem add_at (b off n : Nat) : (⟨b, off, none⟩ : Addr).add n = ⟨b, off + n, none⟩ := by
  unfold Addr.add
  by_cases h : n = 0 <;> simp [h]

/-- A byte as the model holds it. -/
def bv (b : UInt8) : Value := .int .u8 (b.toNat : Int)
theorem bv_one (l : List UInt8) : ∀ u ∈ l.map bv, u.oneCell' = true := by
  intro u hu
  obtain ⟨b, _, rfl⟩ := List.mem_map.1 hu
  rfl

/-- What was there in the blocks of S is there still. -/
structure Same (S : Nat → Prop) (w w' : World) : Prop where
  size : w.heap.size ≤ w'.heap.size
  block : ∀ k, S k → k < w.heap.size → w'.heap[k]? = w.heap[k]?
/-- The blocks from n on. -/
def From (n : Nat) (b : Nat) : Prop := n ≤ b
def All (_ : Nat) : Prop := True
section
variable {S S' : Nat → Prop} {a b c w w' : World}
theorem Same.refl (S : Nat → Prop) (w : World) : Same S w w := ⟨Nat.le_refl _, fun _ _ _ => rfl⟩
theorem Same.trans (h : Same S a b) (k : Same S b c) : Same S a c :=
  ⟨Nat.le_trans h.size k.size, fun i h1 h2 => (k.block i h1 (Nat.lt_of_lt_of_le h2 h.size)).trans (h.block i h1 h2)⟩
theorem Same.of_below (h : Below w.heap.size w w') : Same S w w' := ⟨h.size, fun k _ hk => h.block k hk⟩
theorem Same.setCell (h : Same S a w) {p : Addr} (hp : ¬ S p.block) (u : Value) : Same S a (w.setCell p u) :=
  h.trans ⟨by simp [World.setCell], fun k h1 _ => Below.heap_setCell w p u k (fun e => hp (e ▸ h1))⟩
theorem Same.alloc (h : Same S a w) (o : Obj) : Same S a (w.alloc o) :=
  h.trans ⟨by simp, fun k _ hk => Below.heap_alloc w o k hk⟩
theorem Same.drew (h : Same S a w) : Same S a w.drew := ⟨h.size, h.block⟩
theorem Same.drewN (h : Same S a w) (n : Nat) : Same S a (w.drewN n) := ⟨h.size, h.block⟩
theorem Same.grown (h : Same S a w) {row : Option Nat} (hg : w.grownBy w' row) (hr : ∀ k, row = some k → ¬ S k) : Same S a w' :=
  h.trans ⟨hg.size, fun k h1 h2 => hg.block k h2 (fun e => hr k e.symm h1)⟩
theorem Same.cell (h : Same S w w') {p : Addr} (h1 : S p.block) (h2 : p.block < w.heap.size) : w'.cell? p = w.cell? p := World.cell?_of_block (w := w) (h.block p.block h1 h2)
end

/-- The slice at A reads as the list l: 'size' cells an element, R says which datum they hold; it lies in blocks of S. -/
def SL {α : Type} (size : Nat) (R : (Nat → Prop) → World → List Value → α → Prop) (S : Nat → Prop) (w : World) (A : Option Addr) (l : List α) : Prop :=
  0 < l.length → ∃ b off, A = some ⟨b, off, none⟩ ∧ S b ∧ b < w.heap.size ∧ ∀ i (h : i < l.length), ∃ cs : List Value, cs.length = size ∧ (∀ j, j < size → w.cell? ⟨b, off + i * size + j, none⟩ = cs[j]?) ∧ R S w cs l[i]

/-- What R says stays true where no block of S turns; and of more blocks. -/
structure Stays {α : Type} (R : (Nat → Prop) → World → List Value → α → Prop) : Prop where
  same : ∀ S w w' cs x, Same S w w' → R S w cs x → R S w' cs x
  less : ∀ (S S' : Nat → Prop) w cs x, (∀ b, b < w.heap.size → S b → S' b) → R S w cs x → R S' w cs x

section
variable {α : Type} {size : Nat} {R : (Nat → Prop) → World → List Value → α → Prop} {S S' : Nat → Prop} {w w' : World} {A : Option Addr} {l : List α}
theorem SL.same (hR : Stays R) (h : SL size R S w A l) (hb : Same S w w') : SL size R S w' A l := by
  intro hl
  obtain ⟨b, off, e, h0, hlt, hi⟩ := h hl
  refine ⟨b, off, e, h0, Nat.lt_of_lt_of_le hlt hb.size, fun i hil => ?_⟩
  obtain ⟨cs, h1, h2, h3⟩ := hi i hil
  exact ⟨cs, h1, fun j hj => by rw [← h2 j hj]; exact hb.cell h0 hlt, hR.same _ _ _ _ _ hb h3⟩
theorem SL.below (hR : Stays R) (h : SL size R S w A l) (hb : Below w.heap.size w w') : SL size R S w' A l := h.same hR (Same.of_below hb)
theorem SL.less (hR : Stays R) (h : SL size R S w A l) (hl : ∀ b, b < w.heap.size → S b → S' b) : SL size R S' w A l := by
  intro hl'
  obtain ⟨b, off, e, h0, hlt, hi⟩ := h hl'
  refine ⟨b, off, e, hl _ hlt h0, hlt, fun i hil => ?_⟩
  obtain ⟨cs, h1, h2, h3⟩ := hi i hil
  exact ⟨cs, h1, h2, hR.less _ _ _ _ _ hl h3⟩
theorem SL.z (hR : Stays R) (h : SL size R S w A l) : SL size R All w A l := h.less hR fun _ _ _ => trivial
theorem SL.lo (hR : Stays R) {m n : Nat} (h : SL size R (From n) w A l) (hl : m ≤ n) : SL size R (From m) w A l := h.less hR fun _ _ h => Nat.le_trans hl h
theorem SL.nil : SL size R S w A [] := fun h => absurd h (by simp)
theorem SL.at (h : SL size R S w A l) {k : Nat} (hk : k < l.length) :
    ∃ b off cs, A = some ⟨b, off, none⟩ ∧ S b ∧ b < w.heap.size ∧ cs.length = size ∧ (∀ j, j < size → w.cell? ⟨b, off + k * size + j, none⟩ = cs[j]?) ∧ R S w cs l[k] := by
  obtain ⟨b, off, e, h0, hlt, hi⟩ := h (by omega)
  obtain ⟨cs, h1, h2, h3⟩ := hi k hk
  exact ⟨b, off, cs, e, h0, hlt, h1, h2, h3⟩
end

/-- A row of the call's own whose elements read as the list l, in blocks of S that are not its own. -/
def Own {α : Type} (size : Nat) (R : (Nat → Prop) → World → List Value → α → Prop) (S : Nat → Prop) (w : World) (base : Nat) (e : TypeId) (v : Value) (l : List α) : Prop :=
  ∃ xs, w.ownsRow base e size v l.length xs ∧ ∀ i (h : i < l.length), R (fun b => S b ∧ v.ownBlock ≠ some b) w ((xs.drop (i * size)).take size) l[i]
section
variable {α : Type} {size : Nat} {R : (Nat → Prop) → World → List Value → α → Prop} {S S' : Nat → Prop} {w w' : World} {base : Nat} {e : TypeId} {v : Value} {l : List α}
theorem Own.nil (w : World) (base : Nat) (e : TypeId) : Own size R S w base e (.slice none 0 0) [] := ⟨[], World.ownsRow_nil _ _ _ _, fun i h => absurd h (by simp)⟩
theorem Own.same (hR : Stays R) (h : Own size R S w base e v l) (hb : Same All w w') : Own size R S w' base e v l := by
  obtain ⟨xs, h1, h2⟩ := h
  refine ⟨xs, ⟨h1.1, ?_⟩, fun i hi => hR.same _ _ _ _ _ ⟨hb.size, fun k _ hk => hb.block k trivial hk⟩ (h2 i hi)⟩
  rcases h1.2 with hn | ⟨g, cap, cur, hv, hb', hh, rest⟩
  · exact .inl hn
  · exact .inr ⟨g, cap, cur, hv, hb', by rw [hb.block g trivial (Array.getElem?_eq_some_iff.1 hh).1]; exact hh, rest⟩
theorem Own.below (hR : Stays R) (h : Own size R S w base e v l) (hb : Below w.heap.size w w') : Own size R S w' base e v l := h.same hR (Same.of_below hb)
theorem Own.snoc (hR : Stays R) {v' : Value} {x : α} {xs cs : List Value} (hxs : ∀ i (h : i < l.length), R (fun b => S b ∧ v.ownBlock ≠ some b) w ((xs.drop (i * size)).take size) l[i]) (h1 : w.ownsRow base e size v l.length xs)
    (h' : w'.ownsRow base e size v' (l.length + 1) (xs ++ cs)) (hg : w.grownBy w' v.ownBlock) (hat : v'.ownBlock = v.ownBlock ∨ v'.ownBlock = some w.heap.size)
    (hx : R (fun b => S b ∧ v.ownBlock ≠ some b) w cs x) (hcs : cs.length = size) : Own size R S w' base e v' (l ++ [x]) := by
  have keep : ∀ (c : List Value) (y : α), R (fun b => S b ∧ v.ownBlock ≠ some b) w c y → R (fun b => S b ∧ v'.ownBlock ≠ some b) w' c y := fun c y hy => by
    have hy1 : R (fun b => (S b ∧ v.ownBlock ≠ some b) ∧ v'.ownBlock ≠ some b) w c y := hR.less _ _ _ _ _ (fun b hb hs => ⟨hs, by
      rcases hat with h | h
      · rw [h]; exact hs.2
      · rw [h]; intro e'; cases e'; omega⟩) hy
    have hy2 := hR.same _ _ w' _ _ (Same.grown (Same.refl _ _) hg (fun k hk hs => hs.1.2 hk)) hy1
    exact hR.less _ _ _ _ _ (fun b _ hs => ⟨hs.1.1, hs.2⟩) hy2
  refine ⟨xs ++ cs, by simpa using h', fun i hi => ?_⟩
  have hl := h1.1
  by_cases hil : i < l.length
  · rw [List.getElem_append_left hil]
    have e1 : ((xs ++ cs).drop (i * size)).take size = (xs.drop (i * size)).take size := by
      have hle : (i + 1) * size ≤ xs.length := by rw [hl]; exact Nat.mul_le_mul_right _ hil
      rw [Nat.add_mul, Nat.one_mul] at hle
      rw [List.drop_append_of_le_length (by omega), List.take_append_of_le_length (by rw [List.length_drop]; omega)]
    rw [e1]
    exact keep _ _ (hxs i hil)
  · have hie : i = l.length := by rw [List.length_append, List.length_singleton] at hi; omega
    subst hie
    rw [List.getElem_append_right (Nat.le_refl _)]
    have e1 : ((xs ++ cs).drop (l.length * size)).take size = cs := by
      rw [← hl, List.drop_append_of_le_length (Nat.le_refl _), List.drop_length, List.nil_append, ← hcs, List.take_length]
    rw [e1]
    simpa using keep _ _ hx
theorem Own.readc (hR : Stays R) (h : Own size R (From base) w base e v l) : ∃ A c, v = .slice A l.length c ∧ l.length ≤ c ∧ SL size R (From base) w A l := by
  obtain ⟨xs, h1, h2⟩ := h
  have h1' := h1
  rcases h1.2 with ⟨rfl, h0⟩ | ⟨g, cap, cur, rfl, hge, hh, hcap, _⟩
  · have hl := List.eq_nil_of_length_eq_zero h0
    subst hl
    exact ⟨none, 0, rfl, Nat.le_refl _, SL.nil⟩
  · refine ⟨_, cap, rfl, hcap, fun _ => ⟨g, 0, rfl, hge, (Array.getElem?_eq_some_iff.1 hh).1, fun i hi => ⟨_, ?_, fun j hj => ?_, hR.less _ _ _ _ _ (fun b _ hs => hs.1) (h2 i hi)⟩⟩⟩
    · rw [List.length_take, List.length_drop, h1'.1]
      have : (i + 1) * size ≤ l.length * size := Nat.mul_le_mul_right _ hi
      rw [Nat.add_mul, Nat.one_mul] at this
      omega
    · have hlt : i * size + j < xs.length := by
        rw [h1'.1]
        have : (i + 1) * size ≤ l.length * size := Nat.mul_le_mul_right _ hi
        rw [Nat.add_mul, Nat.one_mul] at this
        omega
      have hc := h1'.cells (g := g) rfl (i * size + j) xs[i * size + j] (List.getElem?_eq_getElem hlt)
      rw [add_at] at hc
      rw [Nat.add_assoc, hc]
      rw [List.getElem?_take_of_lt hj, List.getElem?_drop, List.getElem?_eq_getElem hlt]
theorem Own.read (hR : Stays R) (h : Own size R (From base) w base e v l) : ∃ A c, v = .slice A l.length c ∧ SL size R (From base) w A l :=
  let ⟨A, c, h1, _, h2⟩ := h.readc hR
  ⟨A, c, h1, h2⟩
end

/-- Bytes. -/
def ByteR (_ : Nat → Prop) (_ : World) (cs : List Value) (b : UInt8) : Prop := cs = [bv b]
theorem byteR_stays : Stays ByteR := ⟨fun _ _ _ _ _ _ h => h, fun _ _ _ _ _ _ h => h⟩
abbrev Bs (S : Nat → Prop) (w : World) (A : Option Addr) (l : List UInt8) : Prop := SL 1 ByteR S w A l
section
variable {S S' : Nat → Prop} {w w' : World} {A : Option Addr} {l : List UInt8}
theorem SL.bbelow (h : Bs S w A l) (hb : Below w.heap.size w w') : Bs S w' A l := SL.below byteR_stays h hb
theorem SL.bsame (h : Bs S w A l) (hb : Same S w w') : Bs S w' A l := SL.same byteR_stays h hb
theorem SL.bless (h : Bs S w A l) (hl : ∀ b, b < w.heap.size → S b → S' b) : Bs S' w A l := SL.less byteR_stays h hl
theorem SL.bz (h : Bs S w A l) : Bs All w A l := h.bless fun _ _ _ => trivial
theorem SL.blo {m n : Nat} (h : Bs (From n) w A l) (hl : m ≤ n) : Bs (From m) w A l := h.bless fun _ _ h => Nat.le_trans hl h
theorem SL.bat (h : Bs S w A l) {k : Nat} (hk : k < l.length) :
    ∃ b off, A = some ⟨b, off, none⟩ ∧ S b ∧ b < w.heap.size ∧ w.cell? ⟨b, off + k, none⟩ = some (.int .u8 (l[k].toNat : Int)) := by
  obtain ⟨b, off, e, h0, hlt, hi⟩ := h (by omega)
  obtain ⟨cs, h1, h2, h3⟩ := hi k hk
  refine ⟨b, off, e, h0, hlt, ?_⟩
  have := h2 0 (by omega)
  rw [h3] at this
  simpa [bv] using this
theorem SL.ball (h : Bs S w A l) (hl : 0 < l.length) :
    ∃ b off, A = some ⟨b, off, none⟩ ∧ S b ∧ b < w.heap.size ∧ ∀ j u, (l.map bv)[j]? = some u → w.cell? ⟨b, off + j, none⟩ = some u := by
  obtain ⟨b, off, e, h0, hlt, _⟩ := h hl
  refine ⟨b, off, e, h0, hlt, fun j u hu => ?_⟩
  have hj : j < l.length := by
    rcases Nat.lt_or_ge j l.length with h' | h'
    · exact h'
    · rw [List.getElem?_eq_none (by simpa using h')] at hu; cases hu
  obtain ⟨b', off', e', _, _, hc⟩ := h.bat hj
  rw [e] at e'
  cases e'
  rw [hc]
  simpa [bv, hj] using hu
theorem SL.bof_own {base : Nat} {e : TypeId} {n n' c : Nat} (h : w.ownsRow base e 1 (.slice A n' c) n (l.map bv)) : n = l.length ∧ Bs (From base) w A l := by
  have hn : n = l.length := by have := h.1; simpa using this.symm
  refine ⟨hn, fun hl => ?_⟩
  rcases h.2 with ⟨_, h0⟩ | ⟨g, cap, cur, hv, hge, hh, _⟩
  · omega
  · injection hv with hA
    subst hA
    refine ⟨g, 0, rfl, hge, (Array.getElem?_eq_some_iff.1 hh).1, fun i hi => ⟨[bv l[i]], rfl, fun j hj => ?_, rfl⟩⟩
    obtain rfl : j = 0 := by omega
    have hc := h.cells (g := g) rfl (i * 1 + 0) (bv l[i]) (by simp [hi])
    rw [add_at] at hc
    rw [Nat.add_assoc, hc]
    rfl
end
theorem _root_.Go.RowKit.Below.next {B : Nat} {w W w' : World} (h : Below B w W) (h1 : Below W.heap.size W w') (hB : B ≤ W.heap.size) : Below B w w' := h.trans (h1.mono hB)
/-- The bound of append: 2^47 bytes. -/
def big : Nat := 140737488355328

/-- The call returns a slice that reads as l; nothing that was there has turned. -/
def RetSL {α : Type} (size : Nat) (R : (Nat → Prop) → World → List Value → α → Prop) (w : World) (l : List α) (e : Ending) (w' : World) : Prop :=
  ∃ A c, e = .returned (.slice A l.length c) ∧ SL size R (From w.heap.size) w' A l ∧ Below w.heap.size w w'
/-- .. of which the capacity is no less than the length. -/
def RetSLc {α : Type} (size : Nat) (R : (Nat → Prop) → World → List Value → α → Prop) (w : World) (l : List α) (e : Ending) (w' : World) : Prop :=
  ∃ A c, e = .returned (.slice A l.length c) ∧ l.length ≤ c ∧ SL size R (From w.heap.size) w' A l ∧ Below w.heap.size w w'
theorem RetSLc.bare {α : Type} {size : Nat} {R : (Nat → Prop) → World → List Value → α → Prop} {w : World} {l : List α} {e : Ending} {w' : World} (h : RetSLc size R w l e w') : RetSL size R w l e w' :=
  let ⟨A, c, h1, _, h2⟩ := h
  ⟨A, c, h1, h2⟩
abbrev RetBs (w : World) (l : List UInt8) (e : Ending) (w' : World) : Prop := RetSL 1 ByteR w l e w'
/-- The call returns one value; nothing that was there has turned. -/
def RetV (w : World) (v : Value) (e : Ending) (w' : World) : Prop := e = .returned v ∧ Below w.heap.size w w'

/-! ### append onto a row of the call's own, from whatever source -/
theorem own_below {w w' : World} {base : Nat} {e : TypeId} {size : Nat} {v : Value} {n : Nat} {xs : List Value} (hown : w.ownsRow base e size v n xs) (hg : w.grownBy w' v.ownBlock) (hb : base ≤ w.heap.size) : Below base w w' :=
  (Below.refl _ _).grown hg hb fun k hk => (hown.lt k hk).1
section
variable {P : Program} (w : World)
theorem run_app_none (base : Nat) (t ty e : TypeId) (i : TypeInfo) (size : Nat) (ht : P.underlying t = some (.slice e)) (hi : P.info? e = some i)
    (v : Value) (n : Nat) (xs : List Value) (hown : w.ownsRow base e size v n xs) (c : Nat) : (Builtin.append_ #[t, t] ty #[v, .slice none 0 c]).run P w = .ok v w := by
  rcases hown.2 with ⟨rfl, rfl⟩ | ⟨g, cap, cur, rfl, _, _, hnc, _⟩
  · simp [Builtin.append_, run_underlying ht, sizeOf, typeInfo, hi, Builtin.lenOf, Builtin.firstCells]
  · simp [Builtin.append_, run_underlying ht, sizeOf, typeInfo, hi, Builtin.lenOf, Builtin.firstCells, hnc, storeCells]

theorem run_app (base : Nat) (t ty e : TypeId) (i : TypeInfo) (z : Value) (size bytes : Nat) (ht : P.underlying t = some (.slice e)) (hi : P.info? e = some i) (hz : i.zero = some z)
    (hsize : i.size = size) (hby : i.bytes = bytes) (hzs : z.cells.size = size) (hsz : 0 < size)
    (v : Value) (n : Nat) (xs : List Value) (hown : w.ownsRow base e size v n xs)
    (A : Option Addr) (m c : Nat) (news : List Value) (hl : news.length = m * size) (hsrc : 0 < m → ∃ ad, A = some ad ∧ ∀ j u, news[j]? = some u → w.cell? (ad.add j) = some u) (h1 : ∀ u ∈ news, u.oneCell' = true)
    (h63 : n + m ≤ maxLen) (hbytes : (n + m) * bytes ≤ 140737488355328) (hbase : base ≤ w.heap.size) :
    ∃ v' w', (Builtin.append_ #[t, t] ty #[v, .slice A m c]).run P w = .ok v' w' ∧ w'.ownsRow base e size v' (n + m) (xs ++ news) ∧ w.grownBy w' v.ownBlock ∧ (v'.ownBlock = v.ownBlock ∨ v'.ownBlock = some w.heap.size) := by
  rcases A with _ | ad
  · have hm : m = 0 := by
      rcases Nat.eq_zero_or_pos m with h0 | h0
      · exact h0
      · obtain ⟨ad, h, _⟩ := hsrc h0
        cases h
    subst hm
    have hn : news = [] := List.eq_nil_of_length_eq_zero (by simpa using hl)
    subst hn
    exact ⟨v, w, run_app_none w base t ty e i size ht hi v n xs hown c, by simpa using hown, ⟨rfl, rfl, rfl, Nat.le_refl _, fun _ _ _ => rfl⟩, .inl rfl⟩
  · have hcells : ∀ j u, news[j]? = some u → w.cell? (ad.add j) = some u := by
      rcases Nat.eq_zero_or_pos m with h0 | h0
      · subst h0
        have hn : news = [] := List.eq_nil_of_length_eq_zero (by simpa using hl)
        subst hn
        intro j u hu
        simp at hu
      · obtain ⟨ad', h, hc⟩ := hsrc h0
        injection h with h
        subst h
        exact hc
    obtain ⟨v', w', hrun, h2, h3, _, h5⟩ := run_append_own_at (P := P) w base t ty e i z size bytes ht hi hz hsize hby hzs hsz v n xs hown ad m c news hl hcells h1 h63 hbytes hbase
    exact ⟨v', w', hrun, h2, h3, h5⟩

theorem wp_app {o : Oper} {a : Act} {K : Act → World → Prop} {Q : Exit → Act → World → Prop} (s x : Operand) (t : TypeId)
    (ho : o.op = .call { callee := .builtin .append, args := #[s, x], argTypes := #[t, t] })
    (base : Nat) (e : TypeId) (i : TypeInfo) (z : Value) (size bytes : Nat) (ht : P.underlying t = some (.slice e)) (hi : P.info? e = some i) (hz : i.zero = some z)
    (hsize : i.size = size) (hby : i.bytes = bytes) (hzs : z.cells.size = size) (hsz : 0 < size)
    (v : Value) (n : Nat) (xs : List Value) (hs : a.eval s = v) (hown : w.ownsRow base e size v n xs)
    (A : Option Addr) (m c : Nat) (news : List Value) (hx : a.eval x = .slice A m c) (hl : news.length = m * size) (hsrc : 0 < m → ∃ ad, A = some ad ∧ ∀ j u, news[j]? = some u → w.cell? (ad.add j) = some u) (h1 : ∀ u ∈ news, u.oneCell' = true)
    (h63 : n + m ≤ maxLen) (hbytes : (n + m) * bytes ≤ 140737488355328) (hbase : base ≤ w.heap.size)
    (h : ∀ v' w', w'.ownsRow base e size v' (n + m) (xs ++ news) → w.grownBy w' v.ownBlock → (v'.ownBlock = v.ownBlock ∨ v'.ownBlock = some w.heap.size) → K (a.put o.dst v') w') : o.wp P a w K Q := by
  obtain ⟨v', w', hrun, h2, h3, h4⟩ := run_app (P := P) w base t o.type e i z size bytes ht hi hz hsize hby hzs hsz v n xs hown A m c news hl hsrc h1 h63 hbytes hbase
  unfold Oper.wp execOp
  simp only [ho, resolve, invoke, builtin, Sem.run_bind, Sem.run_pure, Result.andThen_ok, List.map_toArray, List.map_cons, List.map_nil, hs, hx, hrun]
  exact h v' w' h2 h3 h4

theorem wpl_app {ops : Array Oper} {rest : List Oper} {o : Oper} {a : Act} {Q : Exit → Act → World → Prop} (hgd : o.guard = none) (s x : Operand) (t : TypeId)
    (ho : o.op = .call { callee := .builtin .append, args := #[s, x], argTypes := #[t, t] })
    (base : Nat) (e : TypeId) (i : TypeInfo) (z : Value) (size bytes : Nat) (ht : P.underlying t = some (.slice e)) (hi : P.info? e = some i) (hz : i.zero = some z)
    (hsize : i.size = size) (hby : i.bytes = bytes) (hzs : z.cells.size = size) (hsz : 0 < size)
    (v : Value) (n : Nat) (xs : List Value) (hs : a.eval s = v) (hown : w.ownsRow base e size v n xs)
    (A : Option Addr) (m c : Nat) (news : List Value) (hx : a.eval x = .slice A m c) (hl : news.length = m * size) (hsrc : 0 < m → ∃ ad, A = some ad ∧ ∀ j u, news[j]? = some u → w.cell? (ad.add j) = some u) (h1 : ∀ u ∈ news, u.oneCell' = true)
    (h63 : n + m ≤ maxLen) (hbytes : (n + m) * bytes ≤ 140737488355328) (hbase : base ≤ w.heap.size)
    (h : ∀ v' w', w'.ownsRow base e size v' (n + m) (xs ++ news) → w.grownBy w' v.ownBlock → (v'.ownBlock = v.ownBlock ∨ v'.ownBlock = some w.heap.size) → wpList P ops Q rest (a.put o.dst v') w') : wpList P ops Q (o :: rest) a w :=
  wpList_plain hgd fun _ hK => wp_app w s x t ho base e i z size bytes ht hi hz hsize hby hzs hsz v n xs hs hown A m c news hx hl hsrc h1 h63 hbytes hbase fun v' w' h2 h3 h4 => hK _ _ (h v' w' h2 h3 h4)
end

/-- A block of the call's own lies below the heap's size, and from base on. -/
theorem Own.apart {α : Type} {size : Nat} {R : (Nat → Prop) → World → List Value → α → Prop} {S : Nat → Prop} {w : World} {base : Nat} {e : TypeId} {v : Value} {l : List α} (h : Own size R S w base e v l) (n : Nat) (hn : w.heap.size ≤ n) : ∀ b, From n b → v.ownBlock ≠ some b := by
  obtain ⟨xs, h1, _⟩ := h
  intro b hb hv
  have := (h1.lt b hv).2
  simp only [From] at hb
  omega
theorem wpl_snoc {P : Program} {α : Type} {R : (Nat → Prop) → World → List Value → α → Prop} (hR : Stays R) {S : Nat → Prop} (w : World) {ops : Array Oper} {rest : List Oper} {o : Oper} {a : Act} {Q : Exit → Act → World → Prop} (hgd : o.guard = none) (s x : Operand) (t : TypeId)
    (ho : o.op = .call { callee := .builtin .append, args := #[s, x], argTypes := #[t, t] })
    (base : Nat) (e : TypeId) (i : TypeInfo) (z : Value) (size bytes : Nat) (ht : P.underlying t = some (.slice e)) (hi : P.info? e = some i) (hz : i.zero = some z)
    (hsize : i.size = size) (hby : i.bytes = bytes) (hzs : z.cells.size = size) (hsz : 0 < size)
    (v : Value) (l : List α) (hs : a.eval s = v) (hown : Own size R S w base e v l)
    (A : Option Addr) (c : Nat) (cs : List Value) (hx : a.eval x = .slice A 1 c) (hl : cs.length = size) (hsrc : ∃ ad, A = some ad ∧ ∀ j u, cs[j]? = some u → w.cell? (ad.add j) = some u) (h1 : ∀ u ∈ cs, u.oneCell' = true)
    (h63 : l.length + 1 ≤ maxLen) (hbytes : (l.length + 1) * bytes ≤ 140737488355328) (hbase : base ≤ w.heap.size)
    (d : α) (hd : R (fun b => S b ∧ v.ownBlock ≠ some b) w cs d)
    (h : ∀ v' w', Own size R S w' base e v' (l ++ [d]) → Below base w w' → wpList P ops Q rest (a.put o.dst v') w') : wpList P ops Q (o :: rest) a w := by
  obtain ⟨xs, hx1, hx2⟩ := hown
  exact wpl_app w hgd s x t ho base e i z size bytes ht hi hz hsize hby hzs hsz v l.length xs hs hx1 A 1 c cs hx (by omega) (fun _ => hsrc) h1 h63 hbytes hbase
    fun v' w' g1 g2 g3 => h v' w' (Own.snoc hR hx2 hx1 g1 g2 g3 hd hl) (own_below hx1 g2 hbase)
/-- A new block as a source of append. -/
theorem new_src (w : World) (n : Nat) (cs : List Value) (t : TypeId) (hn : w.heap.size = n) : ∃ ad, some (⟨n, 0, none⟩ : Addr) = some ad ∧ ∀ j u, cs[j]? = some u → (w.alloc (.cells cs.toArray t)).cell? (ad.add j) = some u := by
  subst hn
  exact ⟨_, rfl, World.news_of_block (cs := cs.toArray) (t := t) (fr := (0, 0)) (heap_alloc_new w _)⟩

/-- Bytes as a source of append. -/
theorem SL.bsrc {S : Nat → Prop} {w : World} {A : Option Addr} {l : List UInt8} (h : Bs S w A l) : 0 < l.length → ∃ ad, A = some ad ∧ ∀ j u, (l.map bv)[j]? = some u → w.cell? (ad.add j) = some u := fun hl =>
  let ⟨b, off, e, _, _, hc⟩ := h.ball hl
  ⟨⟨b, off, none⟩, e, fun j u hu => by rw [add_at]; exact hc j u hu⟩
/-- One new cell as a source of append. -/
theorem one_src (w : World) (v : Value) (t : TypeId) : 0 < 1 → ∃ ad, some (⟨w.heap.size, 0, none⟩ : Addr) = some ad ∧ ∀ j u, [v][j]? = some u → (w.alloc (.cells #[v] t)).cell? (ad.add j) = some u :=
  fun _ => ⟨_, rfl, World.news_of_block (cs := #[v]) (t := t) (fr := (0, 0)) (heap_alloc_new w _)⟩
theorem ret_bsc {w w1 : World} {e : TypeId} {v : Value} {n : Nat} {l : List UInt8} (hown : w1.ownsRow w.heap.size e 1 v n (l.map bv)) (hb : Below w.heap.size w w1) : RetSLc 1 ByteR w l (.returned v) w1 := by
  rcases hown.2 with ⟨rfl, h0⟩ | ⟨g, cap, cur, rfl, _, _, hcap, _⟩
  · obtain ⟨h1, h2⟩ := SL.bof_own hown
    exact ⟨_, _, by rw [← h1, h0], by omega, h2, hb⟩
  · obtain ⟨h1, h2⟩ := SL.bof_own hown
    exact ⟨_, _, by rw [← h1], by omega, h2, hb⟩
theorem ret_bs {w w1 : World} {e : TypeId} {v : Value} {n : Nat} {l : List UInt8} (hown : w1.ownsRow w.heap.size e 1 v n (l.map bv)) (hb : Below w.heap.size w w1) : RetBs w l (.returned v) w1 := by
  rcases hown.2 with ⟨rfl, h0⟩ | ⟨g, cap, cur, rfl, _⟩
  · obtain ⟨h1, h2⟩ := SL.bof_own hown
    exact ⟨_, _, by rw [← h1, h0], h2, hb⟩
  · obtain ⟨h1, h2⟩ := SL.bof_own hown
    exact ⟨_, _, by rw [← h1], h2, hb⟩
/-! ### blocks known whole: a struct's box -/
theorem box_cell {w : World} {g : Nat} {t : TypeId} {cs : List Value} (h : w.heap[g]? = some (.cells cs.toArray t (0, 0))) (i : Nat) : w.cell? ⟨g, i, none⟩ = cs[i]? := by
  rw [cell_of_row w g i _ t (0, 0) h]
  simp
theorem box_frozen {w : World} {g : Nat} {t : TypeId} {cs : List Value} (h : w.heap[g]? = some (.cells cs.toArray t (0, 0))) (i : Nat) : w.frozen? ⟨g, i, none⟩ = false := by
  simp [World.frozen?, h]
theorem box2 {w : World} {g : Nat} {t : TypeId} {a b : Value} (h : w.heap[g]? = some (.cells #[a, b] t (0, 0))) :
    w.cell? ⟨g, 0, none⟩ = some a ∧ w.cell? ⟨g, 1, none⟩ = some b ∧ w.frozen? ⟨g, 0, none⟩ = false ∧ w.frozen? ⟨g, 1, none⟩ = false :=
  ⟨box_cell (cs := [a, b]) h 0, box_cell (cs := [a, b]) h 1, box_frozen (cs := [a, b]) h 0, box_frozen (cs := [a, b]) h 1⟩
theorem box_new (w : World) (cs : Array Value) (t : TypeId) : (w.alloc (.cells cs t)).heap[w.heap.size]? = some (.cells cs t (0, 0)) := heap_alloc_new w _

theorem ret_int {k : IntKind} {a b : Int} (h : a = b) : Ending.returned (.int k a) = .returned (.int k b) := by rw [h]
theorem ret_bool {a b : Bool} (h : a = b) : Ending.returned (.bool a) = .returned (.bool b) := by rw [h]
theorem take_snoc {α : Type} (l : List α) (k : Nat) (h : k < l.length) : l.take (k + 1) = l.take k ++ [l[k]] := by
  rw [List.take_succ_eq_append_getElem h]
/-! ### bytes as a string -/
theorem toList_mk (l : List UInt8) : ByteArray.toList ⟨l.toArray⟩ = l := by
  simp
def push8 (s : ByteArray) (b : UInt8) : ByteArray := s.push b
theorem fold_push (l : List UInt8) : ∀ s : ByteArray, (l.map fun b => ((b.toNat : Int))).foldl (fun r n => r.push (UInt8.ofNat n.toNat)) s = ⟨(s.data.toList ++ l).toArray⟩ := by
  induction l with
  | nil => intro s; simp
  | cons b l ih => intro s; simp only [List.map_cons, List.foldl_cons, ih]; simp [ByteArray.push]
theorem conv_str {P : Program} {S : Nat → Prop} {w : World} {A : Option Addr} {a : List UInt8} (h : Bs S w A a) (src dst e : TypeId) (c : Nat)
    (hs : P.underlying src = some (.slice e)) (he : P.underlying e = some (.int .u8)) (hd : P.underlying dst = some .string) :
    (convert src dst (.slice A a.length c)).run P w = .ok (.string ⟨a.toArray⟩) w := by
  rw [run_convert_bytes_string w src dst e A _ c hs he hd]
  rcases A with _ | ad
  · have : a = [] := by
      cases a with
      | nil => rfl
      | cons b l => obtain ⟨_, _, h', _⟩ := h (by simp); cases h'
    subst this
    rfl
  · have hl : (loadCells ad a.length).run P w = .ok (((a.map fun b => ((b.toNat : Int))).map (Value.int .u8)).toArray) w := by
      have e1 : a.length = ((a.map fun b => ((b.toNat : Int))).map (Value.int .u8)).length := by simp
      rw [e1]
      refine run_loadCells_list w ad _ fun j v hv => ?_
      rcases Nat.eq_zero_or_pos a.length with h0 | h0
      · obtain rfl := List.eq_nil_of_length_eq_zero h0
        simp at hv
      · obtain ⟨b', off', e', _, _, hc⟩ := h.ball h0
        cases e'
        rw [add_at]
        exact hc j v (by simpa [bv, Function.comp_def] using hv)
    rw [run_bytesToString w ad _ c _ hl, fold_push]
    rfl
/-- a stands ahead of b. -/
def lt (a b : List UInt8) : Bool := Op.bytesLess a b
theorem info_u8 : (Tryd.prog.info? 5).map (fun i => (i.zero, i.size, i.bytes)) = some (some (.int .u8 0), 1, 1) := by kernel_rfl
end Go.Proofs.YtjgdeeabejoegaaDoor
