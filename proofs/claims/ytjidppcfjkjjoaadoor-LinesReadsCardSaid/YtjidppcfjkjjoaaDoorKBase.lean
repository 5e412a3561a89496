/- Base: Words for memory that all texts of this seat share: what a slice reads as, and small lemmas. No condition. Walks: bytes copied and compared; keys checked. No condition but the bound of append on lengths. Walks: pairs, one by one. Walks: lists of pairs: copied, checked. Walks of PathChecks, ForestNames, HistoryKepts. Walk: sameBytes of the references. The order of byte lists; lists of pairs that rise. Plain facts, no program. Walks: bytes behind their length. The conditions of each are in its words. -/
import Derived.Test.YtjidppcfjkjjoaaDoorProg
import Derived.WalkKit
import Derived.WalkSpells
import Derived.WalkLawsBesides
import Derived.WalkSmall
import Derived.Outline
import Derived.Deep.QuietTactic
import Derived.BigQuiet
import Derived.Deep.RegionHeld3
import Derived.Lib.Hide
import Derived.Maps.AppendAt
import Derived.Deep.AppendLies
import Derived.Lib.Bytealg
import Derived.Lib.BytesEntry
import Derived.Lib.SliceRun
namespace Go.Proofs.YtjidppcfjkjjoaaDoor
open Go.RowKit
set_option linter.unusedVariables false
set_option linter.unusedSimpArgs false

theorem add_at (b off n : Nat) : (⟨b, off, none⟩ : Addr).add n = ⟨b, off + n, none⟩ := by
  unfold Addr.add
  by_cases h : n = 0 <;> simp [h]

/-- A byte as the model holds it. -/
def bv (b : UInt8) : Value := .int .u8 (b.toNat : Int)
theorem bv_one (l : List UInt8) : ∀ u ∈ l.map bv, u.oneCell' = true := by
  intro u hu
  obtain ⟨b, _, rfl⟩ := List.mem_map.1 hu
  rfl

/-- What was there in the blocks of S is there still. -/
structure Same (S : Nat → Prop) (w w' : World) : Prop where
  size : w.heap.size ≤ w'.heap.size
  block : ∀ k, S k → k < w.heap.size → w'.heap[k]? = w.heap[k]?
/-- The blocks from n on. -/
def From (n : Nat) (b : Nat) : Prop := n ≤ b
def All (_ : Nat) : Prop := True
section
variable {S S' : Nat → Prop} {a b c w w' : World}
theorem Same.refl (S : Nat → Prop) (w : World) : Same S w w := ⟨Nat.le_refl _, fun _ _ _ => rfl⟩
theorem Same.trans (h : Same S a b) (k : Same S b c) : Same S a c :=
  ⟨Nat.le_trans h.size k.size, fun i h1 h2 => (k.block i h1 (Nat.lt_of_lt_of_le h2 h.size)).trans (h.block i h1 h2)⟩
theorem Same.of_below (h : Below w.heap.size w w') : Same S w w' := ⟨h.size, fun k _ hk => h.block k hk⟩
theorem Same.setCell (h : Same S a w) {p : Addr} (hp : ¬ S p.block) (u : Value) : Same S a (w.setCell p u) :=
  h.trans ⟨by simp [World.setCell], fun k h1 _ => Below.heap_setCell w p u k (fun e => hp (e ▸ h1))⟩
theorem Same.alloc (h : Same S a w) (o : Obj) : Same S a (w.alloc o) :=
  h.trans ⟨by simp, fun k _ hk => Below.heap_alloc w o k hk⟩
theorem Same.drew (h : Same S a w) : Same S a w.drew := ⟨h.size, h.block⟩
theorem Same.drewN (h : Same S a w) (n : Nat) : Same S a (w.drewN n) := ⟨h.size, h.block⟩
theorem Same.grown (h : Same S a w) {row : Option Nat} (hg : w.grownBy w' row) (hr : ∀ k, row = some k → ¬ S k) : Same S a w' :=
  h.trans ⟨hg.size, fun k h1 h2 => hg.block k h2 (fun e => hr k e.symm h1)⟩
theorem Same.cell (h : Same S w w') {p : Addr} (h1 : S p.block) (h2 : p.block < w.heap.size) : w'.cell? p = w.cell? p := World.cell?_of_block (w := w) (h.block p.block h1 h2)
end
/-! ### what is found by itself (mini.py writes these for the words repeat' (first | exact Below.refl _ _ | assumption | refine Below.drew ?_ | refine below_drewN ?_ _ | refine Below.alloc ?_ (by first | exact Nat.le_refl _ | omega | (simp; done) | (simp; omega)) _), repeat' (first | exact Below.refl _ _ | assumption | refine Below.drew ?_ | refine below_drewN ?_ _ | refine Below.setCell ?_ (by first | (simp; done) | omega | (simp; omega)) _ | refine Below.alloc ?_ (by first | exact Nat.le_refl _ | omega | (simp; done) | (simp; omega)) _), repeat' (first | exact Same.refl _ _ | assumption | refine Same.drew ?_ | refine Same.drewN ?_ _ | refine Same.alloc ?_ _ | refine Same.setCell ?_ (fun hq => by simp only [From] at hq; first | omega | (simp at hq; done) | (simp at hq; omega)) _), (by first | (simp; done) | omega | (simp; omega)), (by first | exact Nat.le_refl _ | omega | (simp; done) | (simp; omega)); AO: omega) -/
theorem BE {B : Nat} {w w' : World} (h : Below B w w' := by repeat' (first | exact Below.refl _ _ | assumption | refine Below.drew ?_ | refine below_drewN ?_ _ | refine Below.alloc ?_ (by first | exact Nat.le_refl _ | omega | (simp; done) | (simp; omega)) _)) : Below B w w' := h
theorem BX {B : Nat} {w w' : World} (h : Below B w w' := by repeat' (first | exact Below.refl _ _ | assumption | refine Below.drew ?_ | refine below_drewN ?_ _ | refine Below.setCell ?_ (by first | (simp; done) | omega | (simp; omega)) _ | refine Below.alloc ?_ (by first | exact Nat.le_refl _ | omega | (simp; done) | (simp; omega)) _)) : Below B w w' := h
theorem SM {S : Nat → Prop} {w w' : World} (h : Same S w w' := by repeat' (first | exact Same.refl _ _ | assumption | refine Same.drew ?_ | refine Same.drewN ?_ _ | refine Same.alloc ?_ _ | refine Same.setCell ?_ (fun hq => by simp only [From] at hq; first | omega | (simp at hq; done) | (simp at hq; omega)) _)) : Same S w w' := h
theorem zh {p : Prop} (h : p) : Hid p := h
theorem zn {n : Nat} : n ≤ n := Nat.le_refl n
theorem AO {p : Prop} (h : p := by omega) : p := h
theorem AU {p : Prop} (h : p := by first | (simp; done) | omega | (simp; omega)) : p := h
theorem AZ {p : Prop} (h : p := by first | exact Nat.le_refl _ | omega | (simp; done) | (simp; omega)) : p := h

/-- The slice at A reads as the list l: 'size' cells an element, R says which datum they hold; it lies in blocks of S. -/
def SL {α : Type} (size : Nat) (R : (Nat → Prop) → World → List Value → α → Prop) (S : Nat → Prop) (w : World) (A : Option Addr) (l : List α) : Prop :=
  0 < l.length → ∃ b off, A = some ⟨b, off, none⟩ ∧ S b ∧ b < w.heap.size ∧ ∀ i (h : i < l.length), ∃ cs : List Value, cs.length = size ∧ (∀ j, j < size → w.cell? ⟨b, off + i * size + j, none⟩ = cs[j]?) ∧ R S w cs l[i]

/-- What R says stays true where no block of S turns; and of more blocks. -/
structure Stays {α : Type} (R : (Nat → Prop) → World → List Value → α → Prop) : Prop where
  same : ∀ S w w' cs x, Same S w w' → R S w cs x → R S w' cs x
  less : ∀ (S S' : Nat → Prop) w cs x, (∀ b, b < w.heap.size → S b → S' b) → R S w cs x → R S' w cs x

section
variable {α : Type} {size : Nat} {R : (Nat → Prop) → World → List Value → α → Prop} {S S' : Nat → Prop} {w w' : World} {A : Option Addr} {l : List α}
theorem SL.same (hR : Stays R) (h : SL size R S w A l) (hb : Same S w w') : SL size R S w' A l := by
  intro hl
  obtain ⟨b, off, e, h0, hlt, hi⟩ := h hl
  refine ⟨b, off, e, h0, Nat.lt_of_lt_of_le hlt hb.size, fun i hil => ?_⟩
  obtain ⟨cs, h1, h2, h3⟩ := hi i hil
  exact ⟨cs, h1, fun j hj => by rw [← h2 j hj]; exact hb.cell h0 hlt, hR.same _ _ _ _ _ hb h3⟩
theorem SL.below (hR : Stays R) (h : SL size R S w A l) (hb : Below w.heap.size w w') : SL size R S w' A l := h.same hR (Same.of_below hb)
theorem SL.less (hR : Stays R) (h : SL size R S w A l) (hl : ∀ b, b < w.heap.size → S b → S' b) : SL size R S' w A l := by
  intro hl'
  obtain ⟨b, off, e, h0, hlt, hi⟩ := h hl'
  refine ⟨b, off, e, hl _ hlt h0, hlt, fun i hil => ?_⟩
  obtain ⟨cs, h1, h2, h3⟩ := hi i hil
  exact ⟨cs, h1, h2, hR.less _ _ _ _ _ hl h3⟩
theorem SL.z (hR : Stays R) (h : SL size R S w A l) : SL size R All w A l := h.less hR fun _ _ _ => trivial
theorem SL.lo (hR : Stays R) {m n : Nat} (h : SL size R (From n) w A l) (hl : m ≤ n) : SL size R (From m) w A l := h.less hR fun _ _ h => Nat.le_trans hl h
theorem SL.nil : SL size R S w A [] := fun h => absurd h (by simp)
theorem SL.at (h : SL size R S w A l) {k : Nat} (hk : k < l.length) :
    ∃ b off cs, A = some ⟨b, off, none⟩ ∧ S b ∧ b < w.heap.size ∧ cs.length = size ∧ (∀ j, j < size → w.cell? ⟨b, off + k * size + j, none⟩ = cs[j]?) ∧ R S w cs l[k] := by
  obtain ⟨b, off, e, h0, hlt, hi⟩ := h (by omega)
  obtain ⟨cs, h1, h2, h3⟩ := hi k hk
  exact ⟨b, off, cs, e, h0, hlt, h1, h2, h3⟩
end

/-- A row of the call's own whose elements read as the list l, in blocks of S that are not its own. -/
def Own {α : Type} (size : Nat) (R : (Nat → Prop) → World → List Value → α → Prop) (S : Nat → Prop) (w : World) (base : Nat) (e : TypeId) (v : Value) (l : List α) : Prop :=
  ∃ xs, w.ownsRow base e size v l.length xs ∧ ∀ i (h : i < l.length), R (fun b => S b ∧ v.ownBlock ≠ some b) w ((xs.drop (i * size)).take size) l[i]
section
variable {α : Type} {size : Nat} {R : (Nat → Prop) → World → List Value → α → Prop} {S S' : Nat → Prop} {w w' : World} {base : Nat} {e : TypeId} {v : Value} {l : List α}
theorem Own.nil (w : World) (base : Nat) (e : TypeId) : Own size R S w base e (.slice none 0 0) [] := ⟨[], World.ownsRow_nil _ _ _ _, fun i h => absurd h (by simp)⟩
theorem Own.same (hR : Stays R) (h : Own size R S w base e v l) (hb : Same All w w') : Own size R S w' base e v l := by
  obtain ⟨xs, h1, h2⟩ := h
  refine ⟨xs, ⟨h1.1, ?_⟩, fun i hi => hR.same _ _ _ _ _ ⟨hb.size, fun k _ hk => hb.block k trivial hk⟩ (h2 i hi)⟩
  rcases h1.2 with hn | ⟨g, cap, cur, hv, hb', hh, rest⟩
  · exact .inl hn
  · exact .inr ⟨g, cap, cur, hv, hb', by rw [hb.block g trivial (Array.getElem?_eq_some_iff.1 hh).1]; exact hh, rest⟩
theorem Own.below (hR : Stays R) (h : Own size R S w base e v l) (hb : Below w.heap.size w w') : Own size R S w' base e v l := h.same hR (Same.of_below hb)
theorem Own.snoc (hR : Stays R) {v' : Value} {x : α} {xs cs : List Value} (hxs : ∀ i (h : i < l.length), R (fun b => S b ∧ v.ownBlock ≠ some b) w ((xs.drop (i * size)).take size) l[i]) (h1 : w.ownsRow base e size v l.length xs)
    (h' : w'.ownsRow base e size v' (l.length + 1) (xs ++ cs)) (hg : w.grownBy w' v.ownBlock) (hat : v'.ownBlock = v.ownBlock ∨ v'.ownBlock = some w.heap.size)
    (hx : R (fun b => S b ∧ v.ownBlock ≠ some b) w cs x) (hcs : cs.length = size) : Own size R S w' base e v' (l ++ [x]) := by
  have keep : ∀ (c : List Value) (y : α), R (fun b => S b ∧ v.ownBlock ≠ some b) w c y → R (fun b => S b ∧ v'.ownBlock ≠ some b) w' c y := fun c y hy => by
    have hy1 : R (fun b => (S b ∧ v.ownBlock ≠ some b) ∧ v'.ownBlock ≠ some b) w c y := hR.less _ _ _ _ _ (fun b hb hs => ⟨hs, by
      rcases hat with h | h
      · rw [h]; exact hs.2
      · rw [h]; intro e'; cases e'; omega⟩) hy
    have hy2 := hR.same _ _ w' _ _ (Same.grown (Same.refl _ _) hg (fun k hk hs => hs.1.2 hk)) hy1
    exact hR.less _ _ _ _ _ (fun b _ hs => ⟨hs.1.1, hs.2⟩) hy2
  refine ⟨xs ++ cs, by simpa using h', fun i hi => ?_⟩
  have hl := h1.1
  by_cases hil : i < l.length
  · rw [List.getElem_append_left hil]
    have e1 : ((xs ++ cs).drop (i * size)).take size = (xs.drop (i * size)).take size := by
      have hle : (i + 1) * size ≤ xs.length := by rw [hl]; exact Nat.mul_le_mul_right _ hil
      rw [Nat.add_mul, Nat.one_mul] at hle
      rw [List.drop_append_of_le_length (by omega), List.take_append_of_le_length (by rw [List.length_drop]; omega)]
    rw [e1]
    exact keep _ _ (hxs i hil)
  · have hie : i = l.length := by rw [List.length_append, List.length_singleton] at hi; omega
    subst hie
    rw [List.getElem_append_right (Nat.le_refl _)]
    have e1 : ((xs ++ cs).drop (l.length * size)).take size = cs := by
      rw [← hl, List.drop_append_of_le_length (Nat.le_refl _), List.drop_length, List.nil_append, ← hcs, List.take_length]
    rw [e1]
    simpa using keep _ _ hx
theorem Own.readc (hR : Stays R) (h : Own size R (From base) w base e v l) : ∃ A c, v = .slice A l.length c ∧ l.length ≤ c ∧ SL size R (From base) w A l := by
  obtain ⟨xs, h1, h2⟩ := h
  have h1' := h1
  rcases h1.2 with ⟨rfl, h0⟩ | ⟨g, cap, cur, rfl, hge, hh, hcap, _⟩
  · have hl := List.eq_nil_of_length_eq_zero h0
    subst hl
    exact ⟨none, 0, rfl, Nat.le_refl _, SL.nil⟩
  · refine ⟨_, cap, rfl, hcap, fun _ => ⟨g, 0, rfl, hge, (Array.getElem?_eq_some_iff.1 hh).1, fun i hi => ⟨_, ?_, fun j hj => ?_, hR.less _ _ _ _ _ (fun b _ hs => hs.1) (h2 i hi)⟩⟩⟩
    · rw [List.length_take, List.length_drop, h1'.1]
      have : (i + 1) * size ≤ l.length * size := Nat.mul_le_mul_right _ hi
      rw [Nat.add_mul, Nat.one_mul] at this
      omega
    · have hlt : i * size + j < xs.length := by
        rw [h1'.1]
        have : (i + 1) * size ≤ l.length * size := Nat.mul_le_mul_right _ hi
        rw [Nat.add_mul, Nat.one_mul] at this
        omega
      have hc := h1'.cells (g := g) rfl (i * size + j) xs[i * size + j] (List.getElem?_eq_getElem hlt)
      rw [add_at] at hc
      rw [Nat.add_assoc, hc]
      rw [List.getElem?_take_of_lt hj, List.getElem?_drop, List.getElem?_eq_getElem hlt]
theorem Own.read (hR : Stays R) (h : Own size R (From base) w base e v l) : ∃ A c, v = .slice A l.length c ∧ SL size R (From base) w A l :=
  let ⟨A, c, h1, _, h2⟩ := h.readc hR
  ⟨A, c, h1, h2⟩
end

/-- Bytes. -/
def ByteR (_ : Nat → Prop) (_ : World) (cs : List Value) (b : UInt8) : Prop := cs = [bv b]
theorem byteR_stays : Stays ByteR := ⟨fun _ _ _ _ _ _ h => h, fun _ _ _ _ _ _ h => h⟩
abbrev Bs (S : Nat → Prop) (w : World) (A : Option Addr) (l : List UInt8) : Prop := SL 1 ByteR S w A l
section
variable {S S' : Nat → Prop} {w w' : World} {A : Option Addr} {l : List UInt8}
theorem SL.bbelow (h : Bs S w A l) (hb : Below w.heap.size w w') : Bs S w' A l := SL.below byteR_stays h hb
theorem SL.bsame (h : Bs S w A l) (hb : Same S w w') : Bs S w' A l := SL.same byteR_stays h hb
theorem SL.bless (h : Bs S w A l) (hl : ∀ b, b < w.heap.size → S b → S' b) : Bs S' w A l := SL.less byteR_stays h hl
theorem SL.bz (h : Bs S w A l) : Bs All w A l := h.bless fun _ _ _ => trivial
theorem SL.blo {m n : Nat} (h : Bs (From n) w A l) (hl : m ≤ n) : Bs (From m) w A l := h.bless fun _ _ h => Nat.le_trans hl h
theorem SL.bat (h : Bs S w A l) {k : Nat} (hk : k < l.length) :
    ∃ b off, A = some ⟨b, off, none⟩ ∧ S b ∧ b < w.heap.size ∧ w.cell? ⟨b, off + k, none⟩ = some (.int .u8 (l[k].toNat : Int)) := by
  obtain ⟨b, off, e, h0, hlt, hi⟩ := h (by omega)
  obtain ⟨cs, h1, h2, h3⟩ := hi k hk
  refine ⟨b, off, e, h0, hlt, ?_⟩
  have := h2 0 (by omega)
  rw [h3] at this
  simpa [bv] using this
theorem SL.ball (h : Bs S w A l) (hl : 0 < l.length) :
    ∃ b off, A = some ⟨b, off, none⟩ ∧ S b ∧ b < w.heap.size ∧ ∀ j u, (l.map bv)[j]? = some u → w.cell? ⟨b, off + j, none⟩ = some u := by
  obtain ⟨b, off, e, h0, hlt, _⟩ := h hl
  refine ⟨b, off, e, h0, hlt, fun j u hu => ?_⟩
  have hj : j < l.length := by
    rcases Nat.lt_or_ge j l.length with h' | h'
    · exact h'
    · rw [List.getElem?_eq_none (by simpa using h')] at hu; cases hu
  obtain ⟨b', off', e', _, _, hc⟩ := h.bat hj
  rw [e] at e'
  cases e'
  rw [hc]
  simpa [bv, hj] using hu
theorem SL.bof_own {base : Nat} {e : TypeId} {n n' c : Nat} (h : w.ownsRow base e 1 (.slice A n' c) n (l.map bv)) : n = l.length ∧ Bs (From base) w A l := by
  have hn : n = l.length := by have := h.1; simpa using this.symm
  refine ⟨hn, fun hl => ?_⟩
  rcases h.2 with ⟨_, h0⟩ | ⟨g, cap, cur, hv, hge, hh, _⟩
  · omega
  · injection hv with hA
    subst hA
    refine ⟨g, 0, rfl, hge, (Array.getElem?_eq_some_iff.1 hh).1, fun i hi => ⟨[bv l[i]], rfl, fun j hj => ?_, rfl⟩⟩
    obtain rfl : j = 0 := by omega
    have hc := h.cells (g := g) rfl (i * 1 + 0) (bv l[i]) (by simp [hi])
    rw [add_at] at hc
    rw [Nat.add_assoc, hc]
    rfl
end
theorem _root_.Go.RowKit.Below.next {B : Nat} {w W w' : World} (h : Below B w W) (h1 : Below W.heap.size W w') (hB : B ≤ W.heap.size) : Below B w w' := h.trans (h1.mono hB)
/-- The bound of append: 2^47 bytes. -/
def big : Nat := 140737488355328

/-- The call returns a slice that reads as l; nothing that was there has turned. -/
def RetSL {α : Type} (size : Nat) (R : (Nat → Prop) → World → List Value → α → Prop) (w : World) (l : List α) (e : Ending) (w' : World) : Prop :=
  ∃ A c, e = .returned (.slice A l.length c) ∧ SL size R (From w.heap.size) w' A l ∧ Below w.heap.size w w'
/-- .. of which the capacity is no less than the length. -/
def RetSLc {α : Type} (size : Nat) (R : (Nat → Prop) → World → List Value → α → Prop) (w : World) (l : List α) (e : Ending) (w' : World) : Prop :=
  ∃ A c, e = .returned (.slice A l.length c) ∧ l.length ≤ c ∧ SL size R (From w.heap.size) w' A l ∧ Below w.heap.size w w'
theorem RetSLc.bare {α : Type} {size : Nat} {R : (Nat → Prop) → World → List Value → α → Prop} {w : World} {l : List α} {e : Ending} {w' : World} (h : RetSLc size R w l e w') : RetSL size R w l e w' :=
  let ⟨A, c, h1, _, h2⟩ := h
  ⟨A, c, h1, h2⟩
abbrev RetBs (w : World) (l : List UInt8) (e : Ending) (w' : World) : Prop := RetSL 1 ByteR w l e w'
/-- The call returns one value; nothing that was there has turned. -/
def RetV (w : World) (v : Value) (e : Ending) (w' : World) : Prop := e = .returned v ∧ Below w.heap.size w w'

/-! ### append onto a row of the call's own, from whatever source -/
theorem own_below {w w' : World} {base : Nat} {e : TypeId} {size : Nat} {v : Value} {n : Nat} {xs : List Value} (hown : w.ownsRow base e size v n xs) (hg : w.grownBy w' v.ownBlock) (hb : base ≤ w.heap.size) : Below base w w' :=
  (Below.refl _ _).grown hg hb fun k hk => (hown.lt k hk).1
section
variable {P : Program} (w : World)
theorem run_app_none (base : Nat) (t ty e : TypeId) (i : TypeInfo) (size : Nat) (ht : P.underlying t = some (.slice e)) (hi : P.info? e = some i)
    (v : Value) (n : Nat) (xs : List Value) (hown : w.ownsRow base e size v n xs) (c : Nat) : (Builtin.append_ #[t, t] ty #[v, .slice none 0 c]).run P w = .ok v w := by
  rcases hown.2 with ⟨rfl, rfl⟩ | ⟨g, cap, cur, rfl, _, _, hnc, _⟩
  · simp [Builtin.append_, run_underlying ht, sizeOf, typeInfo, hi, Builtin.lenOf, Builtin.firstCells]
  · simp [Builtin.append_, run_underlying ht, sizeOf, typeInfo, hi, Builtin.lenOf, Builtin.firstCells, hnc, storeCells]

theorem run_app (base : Nat) (t ty e : TypeId) (i : TypeInfo) (z : Value) (size bytes : Nat) (ht : P.underlying t = some (.slice e)) (hi : P.info? e = some i) (hz : i.zero = some z)
    (hsize : i.size = size) (hby : i.bytes = bytes) (hzs : z.cells.size = size) (hsz : 0 < size)
    (v : Value) (n : Nat) (xs : List Value) (hown : w.ownsRow base e size v n xs)
    (A : Option Addr) (m c : Nat) (news : List Value) (hl : news.length = m * size) (hsrc : 0 < m → ∃ ad, A = some ad ∧ ∀ j u, news[j]? = some u → w.cell? (ad.add j) = some u) (h1 : ∀ u ∈ news, u.oneCell' = true)
    (h63 : n + m ≤ maxLen) (hbytes : (n + m) * bytes ≤ 140737488355328) (hbase : base ≤ w.heap.size) :
    ∃ v' w', (Builtin.append_ #[t, t] ty #[v, .slice A m c]).run P w = .ok v' w' ∧ w'.ownsRow base e size v' (n + m) (xs ++ news) ∧ w.grownBy w' v.ownBlock ∧ (v'.ownBlock = v.ownBlock ∨ v'.ownBlock = some w.heap.size) := by
  rcases A with _ | ad
  · have hm : m = 0 := by
      rcases Nat.eq_zero_or_pos m with h0 | h0
      · exact h0
      · obtain ⟨ad, h, _⟩ := hsrc h0
        cases h
    subst hm
    have hn : news = [] := List.eq_nil_of_length_eq_zero (by simpa using hl)
    subst hn
    exact ⟨v, w, run_app_none w base t ty e i size ht hi v n xs hown c, by simpa using hown, ⟨rfl, rfl, rfl, Nat.le_refl _, fun _ _ _ => rfl⟩, .inl rfl⟩
  · have hcells : ∀ j u, news[j]? = some u → w.cell? (ad.add j) = some u := by
      rcases Nat.eq_zero_or_pos m with h0 | h0
      · subst h0
        have hn : news = [] := List.eq_nil_of_length_eq_zero (by simpa using hl)
        subst hn
        intro j u hu
        simp at hu
      · obtain ⟨ad', h, hc⟩ := hsrc h0
        injection h with h
        subst h
        exact hc
    obtain ⟨v', w', hrun, h2, h3, _, h5⟩ := run_append_own_at (P := P) w base t ty e i z size bytes ht hi hz hsize hby hzs hsz v n xs hown ad m c news hl hcells h1 h63 hbytes hbase
    exact ⟨v', w', hrun, h2, h3, h5⟩

theorem wp_app {o : Oper} {a : Act} {K : Act → World → Prop} {Q : Exit → Act → World → Prop} (s x : Operand) (t : TypeId)
    (ho : o.op = .call { callee := .builtin .append, args := #[s, x], argTypes := #[t, t] })
    (base : Nat) (e : TypeId) (i : TypeInfo) (z : Value) (size bytes : Nat) (ht : P.underlying t = some (.slice e)) (hi : P.info? e = some i) (hz : i.zero = some z)
    (hsize : i.size = size) (hby : i.bytes = bytes) (hzs : z.cells.size = size) (hsz : 0 < size)
    (v : Value) (n : Nat) (xs : List Value) (hs : a.eval s = v) (hown : w.ownsRow base e size v n xs)
    (A : Option Addr) (m c : Nat) (news : List Value) (hx : a.eval x = .slice A m c) (hl : news.length = m * size) (hsrc : 0 < m → ∃ ad, A = some ad ∧ ∀ j u, news[j]? = some u → w.cell? (ad.add j) = some u) (h1 : ∀ u ∈ news, u.oneCell' = true)
    (h63 : n + m ≤ maxLen) (hbytes : (n + m) * bytes ≤ 140737488355328) (hbase : base ≤ w.heap.size)
    (h : ∀ v' w', w'.ownsRow base e size v' (n + m) (xs ++ news) → w.grownBy w' v.ownBlock → (v'.ownBlock = v.ownBlock ∨ v'.ownBlock = some w.heap.size) → K (a.put o.dst v') w') : o.wp P a w K Q := by
  obtain ⟨v', w', hrun, h2, h3, h4⟩ := run_app (P := P) w base t o.type e i z size bytes ht hi hz hsize hby hzs hsz v n xs hown A m c news hl hsrc h1 h63 hbytes hbase
  unfold Oper.wp execOp
  simp only [ho, resolve, invoke, builtin, Sem.run_bind, Sem.run_pure, Result.andThen_ok, List.map_toArray, List.map_cons, List.map_nil, hs, hx, hrun]
  exact h v' w' h2 h3 h4

theorem wpl_app {ops : Array Oper} {rest : List Oper} {o : Oper} {a : Act} {Q : Exit → Act → World → Prop} (hgd : o.guard = none) (s x : Operand) (t : TypeId)
    (ho : o.op = .call { callee := .builtin .append, args := #[s, x], argTypes := #[t, t] })
    (base : Nat) (e : TypeId) (i : TypeInfo) (z : Value) (size bytes : Nat) (ht : P.underlying t = some (.slice e)) (hi : P.info? e = some i) (hz : i.zero = some z)
    (hsize : i.size = size) (hby : i.bytes = bytes) (hzs : z.cells.size = size) (hsz : 0 < size)
    (v : Value) (n : Nat) (xs : List Value) (hs : a.eval s = v) (hown : w.ownsRow base e size v n xs)
    (A : Option Addr) (m c : Nat) (news : List Value) (hx : a.eval x = .slice A m c) (hl : news.length = m * size) (hsrc : 0 < m → ∃ ad, A = some ad ∧ ∀ j u, news[j]? = some u → w.cell? (ad.add j) = some u) (h1 : ∀ u ∈ news, u.oneCell' = true)
    (h63 : n + m ≤ maxLen) (hbytes : (n + m) * bytes ≤ 140737488355328) (hbase : base ≤ w.heap.size)
    (h : ∀ v' w', w'.ownsRow base e size v' (n + m) (xs ++ news) → w.grownBy w' v.ownBlock → (v'.ownBlock = v.ownBlock ∨ v'.ownBlock = some w.heap.size) → wpList P ops Q rest (a.put o.dst v') w') : wpList P ops Q (o :: rest) a w :=
  wpList_plain hgd fun _ hK => wp_app w s x t ho base e i z size bytes ht hi hz hsize hby hzs hsz v n xs hs hown A m c news hx hl hsrc h1 h63 hbytes hbase fun v' w' h2 h3 h4 => hK _ _ (h v' w' h2 h3 h4)
end

/-- A block of the call's own lies below the heap's size, and from base on. -/
theorem Own.apart {α : Type} {size : Nat} {R : (Nat → Prop) → World → List Value → α → Prop} {S : Nat → Prop} {w : World} {base : Nat} {e : TypeId} {v : Value} {l : List α} (h : Own size R S w base e v l) (n : Nat) (hn : w.heap.size ≤ n) : ∀ b, From n b → v.ownBlock ≠ some b := by
  obtain ⟨xs, h1, _⟩ := h
  intro b hb hv
  have := (h1.lt b hv).2
  simp only [From] at hb
  omega
theorem wpl_snoc {P : Program} {α : Type} {R : (Nat → Prop) → World → List Value → α → Prop} (hR : Stays R) {S : Nat → Prop} (w : World) {ops : Array Oper} {rest : List Oper} {o : Oper} {a : Act} {Q : Exit → Act → World → Prop} (hgd : o.guard = none) (s x : Operand) (t : TypeId)
    (ho : o.op = .call { callee := .builtin .append, args := #[s, x], argTypes := #[t, t] })
    (base : Nat) (e : TypeId) (i : TypeInfo) (z : Value) (size bytes : Nat) (ht : P.underlying t = some (.slice e)) (hi : P.info? e = some i) (hz : i.zero = some z)
    (hsize : i.size = size) (hby : i.bytes = bytes) (hzs : z.cells.size = size) (hsz : 0 < size)
    (v : Value) (l : List α) (hs : a.eval s = v) (hown : Own size R S w base e v l)
    (A : Option Addr) (c : Nat) (cs : List Value) (hx : a.eval x = .slice A 1 c) (hl : cs.length = size) (hsrc : ∃ ad, A = some ad ∧ ∀ j u, cs[j]? = some u → w.cell? (ad.add j) = some u) (h1 : ∀ u ∈ cs, u.oneCell' = true)
    (h63 : l.length + 1 ≤ maxLen) (hbytes : (l.length + 1) * bytes ≤ 140737488355328) (hbase : base ≤ w.heap.size)
    (d : α) (hd : R (fun b => S b ∧ v.ownBlock ≠ some b) w cs d)
    (h : ∀ v' w', Own size R S w' base e v' (l ++ [d]) → Below base w w' → wpList P ops Q rest (a.put o.dst v') w') : wpList P ops Q (o :: rest) a w := by
  obtain ⟨xs, hx1, hx2⟩ := hown
  exact wpl_app w hgd s x t ho base e i z size bytes ht hi hz hsize hby hzs hsz v l.length xs hs hx1 A 1 c cs hx (by omega) (fun _ => hsrc) h1 h63 hbytes hbase
    fun v' w' g1 g2 g3 => h v' w' (Own.snoc hR hx2 hx1 g1 g2 g3 hd hl) (own_below hx1 g2 hbase)
/-- A new block as a source of append. -/
theorem new_src (w : World) (n : Nat) (cs : List Value) (t : TypeId) (hn : w.heap.size = n) : ∃ ad, some (⟨n, 0, none⟩ : Addr) = some ad ∧ ∀ j u, cs[j]? = some u → (w.alloc (.cells cs.toArray t)).cell? (ad.add j) = some u := by
  subst hn
  exact ⟨_, rfl, World.news_of_block (cs := cs.toArray) (t := t) (fr := (0, 0)) (heap_alloc_new w _)⟩

/-- Bytes as a source of append. -/
theorem SL.bsrc {S : Nat → Prop} {w : World} {A : Option Addr} {l : List UInt8} (h : Bs S w A l) : 0 < l.length → ∃ ad, A = some ad ∧ ∀ j u, (l.map bv)[j]? = some u → w.cell? (ad.add j) = some u := fun hl =>
  let ⟨b, off, e, _, _, hc⟩ := h.ball hl
  ⟨⟨b, off, none⟩, e, fun j u hu => by rw [add_at]; exact hc j u hu⟩
/-- One new cell as a source of append. -/
theorem one_src (w : World) (v : Value) (t : TypeId) : 0 < 1 → ∃ ad, some (⟨w.heap.size, 0, none⟩ : Addr) = some ad ∧ ∀ j u, [v][j]? = some u → (w.alloc (.cells #[v] t)).cell? (ad.add j) = some u :=
  fun _ => ⟨_, rfl, World.news_of_block (cs := #[v]) (t := t) (fr := (0, 0)) (heap_alloc_new w _)⟩
theorem ret_bsc {w w1 : World} {e : TypeId} {v : Value} {n : Nat} {l : List UInt8} (hown : w1.ownsRow w.heap.size e 1 v n (l.map bv)) (hb : Below w.heap.size w w1) : RetSLc 1 ByteR w l (.returned v) w1 := by
  rcases hown.2 with ⟨rfl, h0⟩ | ⟨g, cap, cur, rfl, _, _, hcap, _⟩
  · obtain ⟨h1, h2⟩ := SL.bof_own hown
    exact ⟨_, _, by rw [← h1, h0], by omega, h2, hb⟩
  · obtain ⟨h1, h2⟩ := SL.bof_own hown
    exact ⟨_, _, by rw [← h1], by omega, h2, hb⟩
theorem ret_bs {w w1 : World} {e : TypeId} {v : Value} {n : Nat} {l : List UInt8} (hown : w1.ownsRow w.heap.size e 1 v n (l.map bv)) (hb : Below w.heap.size w w1) : RetBs w l (.returned v) w1 := by
  rcases hown.2 with ⟨rfl, h0⟩ | ⟨g, cap, cur, rfl, _⟩
  · obtain ⟨h1, h2⟩ := SL.bof_own hown
    exact ⟨_, _, by rw [← h1, h0], h2, hb⟩
  · obtain ⟨h1, h2⟩ := SL.bof_own hown
    exact ⟨_, _, by rw [← h1], h2, hb⟩
/-! ### blocks known whole: a struct's box -/
theorem box_cell {w : World} {g : Nat} {t : TypeId} {cs : List Value} (h : w.heap[g]? = some (.cells cs.toArray t (0, 0))) (i : Nat) : w.cell? ⟨g, i, none⟩ = cs[i]? := by
  rw [cell_of_row w g i _ t (0, 0) h]
  simp
theorem box_frozen {w : World} {g : Nat} {t : TypeId} {cs : List Value} (h : w.heap[g]? = some (.cells cs.toArray t (0, 0))) (i : Nat) : w.frozen? ⟨g, i, none⟩ = false := by
  simp [World.frozen?, h]
theorem box2 {w : World} {g : Nat} {t : TypeId} {a b : Value} (h : w.heap[g]? = some (.cells #[a, b] t (0, 0))) :
    w.cell? ⟨g, 0, none⟩ = some a ∧ w.cell? ⟨g, 1, none⟩ = some b ∧ w.frozen? ⟨g, 0, none⟩ = false ∧ w.frozen? ⟨g, 1, none⟩ = false :=
  ⟨box_cell (cs := [a, b]) h 0, box_cell (cs := [a, b]) h 1, box_frozen (cs := [a, b]) h 0, box_frozen (cs := [a, b]) h 1⟩
theorem box_new (w : World) (cs : Array Value) (t : TypeId) : (w.alloc (.cells cs t)).heap[w.heap.size]? = some (.cells cs t (0, 0)) := heap_alloc_new w _

theorem ret_int {k : IntKind} {a b : Int} (h : a = b) : Ending.returned (.int k a) = .returned (.int k b) := by rw [h]
theorem ret_bool {a b : Bool} (h : a = b) : Ending.returned (.bool a) = .returned (.bool b) := by rw [h]
theorem take_snoc {α : Type} (l : List α) (k : Nat) (h : k < l.length) : l.take (k + 1) = l.take k ++ [l[k]] := by
  rw [List.take_succ_eq_append_getElem h]
/-! ### bytes as a string -/
theorem toList_mk (l : List UInt8) : ByteArray.toList ⟨l.toArray⟩ = l := by
  simp
def push8 (s : ByteArray) (b : UInt8) : ByteArray := s.push b
theorem fold_push (l : List UInt8) : ∀ s : ByteArray, (l.map fun b => ((b.toNat : Int))).foldl (fun r n => r.push (UInt8.ofNat n.toNat)) s = ⟨(s.data.toList ++ l).toArray⟩ := by
  induction l with
  | nil => intro s; simp
  | cons b l ih => intro s; simp only [List.map_cons, List.foldl_cons, ih]; simp [ByteArray.push]
theorem conv_str {P : Program} {S : Nat → Prop} {w : World} {A : Option Addr} {a : List UInt8} (h : Bs S w A a) (src dst e : TypeId) (c : Nat)
    (hs : P.underlying src = some (.slice e)) (he : P.underlying e = some (.int .u8)) (hd : P.underlying dst = some .string) :
    (convert src dst (.slice A a.length c)).run P w = .ok (.string ⟨a.toArray⟩) w := by
  rw [run_convert_bytes_string w src dst e A _ c hs he hd]
  rcases A with _ | ad
  · have : a = [] := by
      cases a with
      | nil => rfl
      | cons b l => obtain ⟨_, _, h', _⟩ := h (by simp); cases h'
    subst this
    rfl
  · have hl : (loadCells ad a.length).run P w = .ok (((a.map fun b => ((b.toNat : Int))).map (Value.int .u8)).toArray) w := by
      have e1 : a.length = ((a.map fun b => ((b.toNat : Int))).map (Value.int .u8)).length := by simp
      rw [e1]
      refine run_loadCells_list w ad _ fun j v hv => ?_
      rcases Nat.eq_zero_or_pos a.length with h0 | h0
      · obtain rfl := List.eq_nil_of_length_eq_zero h0
        simp at hv
      · obtain ⟨b', off', e', _, _, hc⟩ := h.ball h0
        cases e'
        rw [add_at]
        exact hc j v (by simpa [bv, Function.comp_def] using hv)
    rw [run_bytesToString w ad _ c _ hl, fold_push]
    rfl
/-- a stands ahead of b. -/
def lt (a b : List UInt8) : Bool := Op.bytesLess a b
theorem info_u8 : (Tryd.prog.info? 5).map (fun i => (i.zero, i.size, i.bytes)) = some (some (.int .u8 0), 1, 1) := by kernel_rfl
end Go.Proofs.YtjidppcfjkjjoaaDoor
namespace Go.Proofs.YtjidppcfjkjjoaaDoor
open Go.RowKit
set_option linter.unusedVariables false
set_option linter.unusedSimpArgs false

set_option maxHeartbeats 400000 in
theorem octets_cap (w : World) (A : Option Addr) (a : List UInt8) (c : Nat) (ha : Bs All w A a) (hn : a.length ≤ big) :
    Calls Tryd.prog 11 #[.slice A a.length c] w (RetSLc 1 ByteR w a) := by
  unfold big at hn
  obtain ⟨i0, hi0, hz0, hz1, hz2⟩ := info_parts info_u8
  have Ha := Lib.hid ha
  clear ha
  go_enter Tryd.func11, Tryd.ntmps11
  go_wp2_with (at_builtin; refine wpl_app _ rfl _ _ _ rfl w.heap.size 5 i0 (.int .u8 0) 1 1 Tryd.underlying32 hi0 hz0 hz1 hz2 rfl (by decide) _ 0 [] rfl (World.ownsRow_nil _ _ _ _) A a.length c (a.map bv) rfl (by simp) Ha.out.bsrc (bv_one a) (by unfold maxLen; omega) (by omega) (Nat.le_refl _) ?_; intro v1 w1 hown1 hg1 hat1)
  go_ret
  exact ret_bsc (by simpa using hown1) (own_below (World.ownsRow_nil _ _ 5 1) hg1 (Nat.le_refl _))
theorem octets_ok (w : World) (A : Option Addr) (a : List UInt8) (c : Nat) (ha : Bs All w A a) (hn : a.length ≤ big) :
    Calls Tryd.prog 11 #[.slice A a.length c] w (RetBs w a) :=
  (octets_cap w A a c ha hn).mono fun _ _ h => h.bare

theorem in_ok (w : World) (n low high : Int) :
    Calls Tryd.prog 24 #[.int .i64 n, .int .i64 low, .int .i64 high] w fun e w' => e = .returned (.bool (decide (low ≤ n) && decide (n ≤ high))) ∧ w = w' := by
  by_cases h1 : low ≤ n <;> by_cases h2 : n ≤ high
  all_goals
    go_enter Tryd.func24, Tryd.ntmps24
    go_wp2
    go_ret
    exact ⟨by simp [h1, h2], rfl⟩

/-- What KeyFault and path.Check answer. -/
def keyFault (a : List UInt8) : Int := if 1 ≤ a.length ∧ a.length ≤ 16 then 0 else 1

theorem sameBytes_ok (w : World) (A B : Option Addr) (a b : List UInt8) (c d : Nat) (ha : Bs All w A a) (hb : Bs All w B b) :
    Calls Tryd.prog 18 #[.slice A a.length c, .slice B b.length d] w fun e w' => e = .returned (.bool (a == b)) ∧ w = w' := by
  have h1 := conv_str ha 32 9 5 c Tryd.underlying32 Tryd.underlying5 Tryd.underlying9
  have h2 := conv_str hb 32 9 5 d Tryd.underlying32 Tryd.underlying5 Tryd.underlying9
  clear ha hb
  go_enter Tryd.func18, Tryd.ntmps18
  go_wp2
  go_ret
  exact ⟨rfl, rfl⟩
theorem cmp_lt : ∀ a b : List UInt8, Lib.compareBytes a b = if lt a b then -1 else if a = b then 0 else 1
  | [], [] => by simp [Lib.compareBytes, lt, Op.bytesLess]
  | [], _ :: _ => by simp [Lib.compareBytes, lt, Op.bytesLess]
  | _ :: _, [] => by simp [Lib.compareBytes, lt, Op.bytesLess]
  | a :: x, b :: y => by
    have ih := cmp_lt x y
    unfold Lib.compareBytes
    by_cases h1 : a < b
    · simp [h1, lt, Op.bytesLess]
    · by_cases h2 : b < a
      · have h3 : a ≠ b := fun e => by subst e; exact h1 h2
        simp [h1, h2, lt, Op.bytesLess, h3]
      · have h3 : a = b := UInt8.le_antisymm (UInt8.not_lt.1 h2) (UInt8.not_lt.1 h1)
        subst h3
        simp only [lt] at ih
        simp [lt, Op.bytesLess, ih]
        rfl

/-- What bytes.Compare answers. -/
def cmp3 (a b : List UInt8) : Int := if lt a b then -1 else if a = b then 0 else 1
theorem bytesOf_ok {P : Program} {S : Nat → Prop} {w : World} {A : Option Addr} {a : List UInt8} (h : Bs S w A a) (c : Nat) : (Extern.Bytes.bytesOf (.slice A a.length c)).run P w = .ok ⟨a.toArray⟩ w := by
  rcases A with _ | ad
  · have : a = [] := by
      cases a with
      | nil => rfl
      | cons b l => obtain ⟨_, _, h', _⟩ := h (by simp); cases h'
    subst this
    rfl
  · rcases Nat.eq_zero_or_pos a.length with h0 | h0
    · obtain rfl := List.eq_nil_of_length_eq_zero h0
      rfl
    · obtain ⟨b', off', e', _, _, hc⟩ := h.ball h0
      cases e'
      have := Lib.run_loadBytesX (P := P) w (a.map fun b => ((b.toNat : Int))) ⟨b', off', none⟩ .empty (fun j x hx => by
        obtain ⟨b, hb, rfl⟩ := List.mem_map.1 (List.mem_of_getElem? hx)
        rw [add_at]
        exact hc j _ (by simp only [List.getElem?_map] at hx ⊢; cases hj : a[j]? <;> simp_all [bv]))
      rw [List.length_map] at this
      rw [Extern.Bytes.bytesOf, this]
      congr 2
      simp [Lib.bytesOf, Function.comp_def]
theorem compare_run {P : Program} {Sa Sb : Nat → Prop} {w : World} {A B : Option Addr} {a b : List UInt8} (ha : Bs Sa w A a) (hb : Bs Sb w B b) (c d : Nat) :
    (Extern.BytealgCompare.compare #[.slice A a.length c, .slice B b.length d]).run P w = .ok (.int .i64 (cmp3 a b)) w := by
  change Sem.run P (do pure (goInt (Extern.BytealgCompare.cmp (← Extern.Bytes.bytesOf (.slice A a.length c)) (← Extern.Bytes.bytesOf (.slice B b.length d))))) w = _
  simp only [Sem.run_bind, bytesOf_ok ha, bytesOf_ok hb, Result.andThen]
  rw [Lib.cmp_eq, cmp_lt]
  rfl
end Go.Proofs.YtjidppcfjkjjoaaDoor
namespace Go.Proofs.YtjidppcfjkjjoaaDoor
open Go.RowKit
set_option linter.unusedVariables false
set_option linter.unusedSimpArgs false

abbrev Pr := List UInt8 × List UInt8
/-- The two cells of a pair. -/
def PairR (S : Nat → Prop) (w : World) (cs : List Value) (p : Pr) : Prop :=
  ∃ A c B d, cs = [.slice A p.1.length c, .slice B p.2.length d] ∧ Bs S w A p.1 ∧ Bs S w B p.2 ∧ p.1.length ≤ big ∧ p.2.length ≤ big
theorem pairR_stays : Stays PairR :=
  ⟨fun _ _ _ _ _ hb ⟨A, c, B, d, h0, h1, h2, h3⟩ => ⟨A, c, B, d, h0, h1.bsame hb, h2.bsame hb, h3⟩, fun _ _ _ _ _ hb ⟨A, c, B, d, h0, h1, h2, h3⟩ => ⟨A, c, B, d, h0, h1.bless hb, h2.bless hb, h3⟩⟩
/-- The call returns a pair that reads as p. -/
def RetPair (w : World) (p : Pr) (e : Ending) (w' : World) : Prop :=
  ∃ A c B d, e = .returned (.agg #[.slice A p.1.length c, .slice B p.2.length d]) ∧ Bs (From w.heap.size) w' A p.1 ∧ Bs (From w.heap.size) w' B p.2 ∧ Below w.heap.size w w'

/-- The pair that the value v holds. -/
def IsPair (w : World) (v : Value) (p : Pr) : Prop := ∃ A c B d, v = .agg #[.slice A p.1.length c, .slice B p.2.length d] ∧ Bs All w A p.1 ∧ Bs All w B p.2 ∧ p.1.length ≤ big ∧ p.2.length ≤ big

/-- What tree.pair and pairFault answer. -/
def pairFaultS (p : Pr) : Int := if 32 < p.2.length then 1 else keyFault p.1

end Go.Proofs.YtjidppcfjkjjoaaDoor
namespace Go.Proofs.YtjidppcfjkjjoaaDoor
open Go.RowKit
set_option linter.unusedVariables false
set_option linter.unusedSimpArgs false

abbrev Ps (S : Nat → Prop) (w : World) (A : Option Addr) (l : List Pr) : Prop := SL 2 PairR S w A l
abbrev RetPs (w : World) (l : List Pr) (e : Ending) (w' : World) : Prop := RetSL 2 PairR w l e w'
theorem pairs_at {S : Nat → Prop} {w : World} {A : Option Addr} {l : List Pr} (h : Ps S w A l) {k : Nat} (hk : k < l.length) :
    ∃ b off K c V d, A = some ⟨b, off, none⟩ ∧ S b ∧ b < w.heap.size ∧ w.cell? ⟨b, off + k * 2, none⟩ = some (.slice K l[k].1.length c) ∧ w.cell? ⟨b, off + k * 2 + 1, none⟩ = some (.slice V l[k].2.length d) ∧
      Bs S w K l[k].1 ∧ Bs S w V l[k].2 ∧ l[k].1.length ≤ big ∧ l[k].2.length ≤ big := by
  obtain ⟨b, off, cs, e, h0, hlt, h1, h2, A', c, B', d, rfl, h3, h4, h5, h6⟩ := h.at hk
  exact ⟨b, off, A', c, B', d, e, h0, hlt, by simpa using h2 0 (by omega), by simpa using h2 1 (by omega), h3, h4, h5, h6⟩

/-! ### what is refused of pairs -/
/-- The first number that is not 0 of f k, f (k + 1), .. (n of them). -/
def firstBad (f : Nat → Int) : Nat → Nat → Int
  | 0, _ => 0
  | n + 1, k => if f k ≠ 0 then f k else firstBad f n (k + 1)
theorem firstBad_at (f : Nat → Int) {n k : Nat} (hk : k < n) : firstBad f (n - k) k = if f k ≠ 0 then f k else firstBad f (n - (k + 1)) (k + 1) := by
  obtain ⟨m, hm⟩ : ∃ m, n - k = m + 1 := ⟨n - k - 1, by omega⟩
  have e : n - (k + 1) = m := by omega
  rw [hm, e]
  rfl
def pairAt (l : List Pr) (i : Nat) : Int :=
  if pairFaultS (l.getD i ([], [])) ≠ 0 then pairFaultS (l.getD i ([], [])) else if 0 < i ∧ lt (l.getD (i - 1) ([], [])).1 (l.getD i ([], [])).1 = false then 3 else 0
/-- What PairsFault and tree.Check answer. -/
def pairsFaultS (l : List Pr) : Int := if 60 < l.length then 1 else firstBad (pairAt l) l.length 0
theorem pairAt_bad {l : List Pr} {k : Nat} (hk : k < l.length) (h : pairFaultS l[k] ≠ 0) : pairAt l k = pairFaultS l[k] := by
  simp [pairAt, hk, h]
theorem pairAt_order {l : List Pr} {k : Nat} (hk : k + 1 < l.length) (h : pairFaultS l[k + 1] = 0) (ho : lt l[k].1 l[k + 1].1 = false) : pairAt l (k + 1) = 3 := by
  have hk' : k < l.length := by omega
  simp [pairAt, hk, hk', h, ho]
theorem pairAt_ok {l : List Pr} {k : Nat} (hk : k + 1 < l.length) (h : pairFaultS l[k + 1] = 0) (ho : lt l[k].1 l[k + 1].1 = true) : pairAt l (k + 1) = 0 := by
  have hk' : k < l.length := by omega
  simp [pairAt, hk, hk', h, ho]
theorem pairAt_zero {l : List Pr} (hk : 0 < l.length) (h : pairFaultS l[0] = 0) : pairAt l 0 = 0 := by
  simp [pairAt, hk, h]

end Go.Proofs.YtjidppcfjkjjoaaDoor
namespace Go.Proofs.YtjidppcfjkjjoaaDoor
open Go.RowKit
set_option linter.unusedVariables false
set_option linter.unusedSimpArgs false

/-- What NameFault and forest.Name answer. -/
def nameFault (a : List UInt8) : Int := if 1 ≤ a.length ∧ a.length ≤ 8 then 0 else 1
end Go.Proofs.YtjidppcfjkjjoaaDoor
namespace Go.Proofs.YtjidppcfjkjjoaaDoor
open Go.RowKit
set_option linter.unusedVariables false
set_option linter.unusedSimpArgs false

end Go.Proofs.YtjidppcfjkjjoaaDoor
namespace Go.Proofs.YtjidppcfjkjjoaaDoor
open Go.RowKit
set_option linter.unusedVariables false
set_option linter.unusedSimpArgs false

theorem lt_irrefl : ∀ a : List UInt8, lt a a = false
  | [] => rfl
  | a :: x => by
    have ih := lt_irrefl x
    simp only [lt] at ih
    simp [lt, Op.bytesLess, ih]
theorem lt_trans : ∀ a b c : List UInt8, lt a b = true → lt b c = true → lt a c = true
  | _, [], _, h, _ => by simp [lt, Op.bytesLess] at h
  | _, _ :: _, [], _, h => by simp [lt, Op.bytesLess] at h
  | [], _ :: _, _ :: _, _, _ => by simp [lt, Op.bytesLess]
  | a :: x, b :: y, c :: z, h1, h2 => by
    have ih := lt_trans x y z
    simp only [lt, Op.bytesLess, Bool.or_eq_true, decide_eq_true_eq, Bool.and_eq_true, beq_iff_eq] at *
    rcases h1 with h1 | ⟨rfl, h1⟩ <;> rcases h2 with h2 | ⟨rfl, h2⟩
    · exact .inl (UInt8.lt_trans h1 h2)
    · exact .inl h1
    · exact .inl h2
    · exact .inr ⟨rfl, ih h1 h2⟩
theorem lt_tri : ∀ a b : List UInt8, lt a b = false → lt b a = false → a = b
  | [], [], _, _ => rfl
  | [], _ :: _, h, _ => by simp [lt, Op.bytesLess] at h
  | _ :: _, [], _, h => by simp [lt, Op.bytesLess] at h
  | a :: x, b :: y, h1, h2 => by
    have ih := lt_tri x y
    simp only [lt] at ih
    simp only [lt, Op.bytesLess, Bool.or_eq_false_iff, decide_eq_false_iff_not, Bool.and_eq_false_iff, beq_eq_false_iff_ne] at h1 h2
    have e : a = b := UInt8.le_antisymm (UInt8.not_lt.1 h2.1) (UInt8.not_lt.1 h1.1)
    subst e
    rw [ih (by simpa using h1.2) (by simpa using h2.2)]
theorem lt_asymm (a b : List UInt8) (h : lt a b = true) : lt b a = false := by
  rcases Bool.eq_false_or_eq_true (lt b a) with h' | h'
  · have := lt_trans a b a h h'
    rw [lt_irrefl] at this
    cases this
  · exact h'
theorem cmp3_neg {a b : List UInt8} (h : lt a b = true) : cmp3 a b < 0 := by simp [cmp3, h]
theorem cmp3_nonneg {a b : List UInt8} (h : lt a b = false) : 0 ≤ cmp3 a b := by simp only [cmp3, h]; simp; split <;> omega
theorem cmp3_zero (a b : List UInt8) : (cmp3 a b == 0) = (a == b) := by
  by_cases h : a = b
  · subst h
    simp [cmp3, lt_irrefl]
  · simp only [cmp3]
    split
    · simp [h]
    · simp [h]

/-- The keys rise. -/
def Rise (ks : List (List UInt8)) : Prop := ∀ i j (hi : i < j) (hj : j < ks.length), lt (ks[i]'(by omega)) ks[j] = true
theorem rise_of_steps {ks : List (List UInt8)} (h : ∀ i (hi : i + 1 < ks.length), lt ks[i] ks[i + 1] = true) : Rise ks := by
  intro i j hi hj
  induction j with
  | zero => omega
  | succ j ih =>
    by_cases e : i = j
    · subst e; exact h i hj
    · exact lt_trans _ _ _ (ih (by omega) (by omega)) (h j hj)
theorem firstBad_zero {f : Nat → Int} : ∀ (n k : Nat), firstBad f n k = 0 → ∀ i, i < n → f (k + i) = 0
  | 0, _, _, i, hi => absurd hi (by omega)
  | n + 1, k, h, i, hi => by
    unfold firstBad at h
    split at h
    · rename_i hne; exact absurd h hne
    · rename_i hz
      rcases i with _ | i
      · simpa using hz
      · have := firstBad_zero n (k + 1) h i (by omega)
        rw [show k + (i + 1) = k + 1 + i by omega]
        exact this
/-- What it means that nothing is refused of pairs. -/
theorem pairs_fine {l : List Pr} (h : pairsFaultS l = 0) : l.length ≤ 60 ∧ (∀ p ∈ l, pairFaultS p = 0) ∧ Rise (l.map (·.1)) := by
  unfold pairsFaultS at h
  split at h
  · simp at h
  · rename_i hl
    have hz := firstBad_zero _ _ h
    have hp : ∀ i (hi : i < l.length), pairFaultS l[i] = 0 := fun i hi => by
      have := hz i hi
      rw [Nat.zero_add] at this
      by_cases hb : pairFaultS l[i] = 0
      · exact hb
      · rw [pairAt_bad hi hb] at this; exact this
    refine ⟨by omega, fun p hp' => ?_, rise_of_steps fun i hi => ?_⟩
    · obtain ⟨i, hi, rfl⟩ := List.getElem_of_mem hp'
      exact hp i hi
    · have hi' : i + 1 < l.length := by simpa using hi
      simp only [List.getElem_map]
      have := hz (i + 1) hi'
      rw [Nat.zero_add] at this
      rcases Bool.eq_false_or_eq_true (lt l[i].1 l[i + 1].1) with ho | ho
      · exact ho
      · rw [pairAt_order hi' (hp _ hi') ho] at this
        cases this
/-- Where a key is, or would be: at i, among keys that rise. -/
structure At (ks : List (List UInt8)) (k : List UInt8) (i : Nat) : Prop where
  le : i ≤ ks.length
  low : ∀ j (_ : j < i) (h : j < ks.length), lt ks[j] k = true
  high : ∀ j (_ : i ≤ j) (h : j < ks.length), lt ks[j] k = false
theorem low_of {ks : List (List UInt8)} (hr : Rise ks) {m : Nat} {k : List UInt8} (hm : m < ks.length) (h : lt ks[m] k = true) : ∀ j (_ : j < m + 1) (hj : j < ks.length), lt ks[j] k = true := by
  intro j h1 hj
  rcases (by omega : j < m ∨ j = m) with h2 | rfl
  · exact lt_trans _ _ _ (hr j m h2 hm) h
  · exact h
theorem high_of {ks : List (List UInt8)} (hr : Rise ks) {m : Nat} {k : List UInt8} (hm : m < ks.length) (h : lt ks[m] k = false) : ∀ j (_ : m ≤ j) (hj : j < ks.length), lt ks[j] k = false := by
  intro j h1 hj
  rcases (by omega : m < j ∨ j = m) with h2 | rfl
  · rcases Bool.eq_false_or_eq_true (lt ks[j] k) with h3 | h3
    · rw [lt_trans _ _ _ (hr m j h2 hj) h3] at h; cases h
    · exact h3
  · exact h
end Go.Proofs.YtjidppcfjkjjoaaDoor
namespace Go.Proofs.YtjidppcfjkjjoaaDoor
open Go.RowKit
set_option linter.unusedVariables false
set_option linter.unusedSimpArgs false

/-- The blocks below n. -/
def Lo (n : Nat) (b : Nat) : Prop := b < n
theorem SL.low {α : Type} {size : Nat} {R : (Nat → Prop) → World → List Value → α → Prop} (hR : Stays R) {S : Nat → Prop} {w : World} {A : Option Addr} {l : List α} {n : Nat} (h : SL size R S w A l) (hn : w.heap.size ≤ n) : SL size R (Lo n) w A l :=
  h.less hR fun b hb _ => Nat.lt_of_lt_of_le hb hn
theorem Same.of_low {n : Nat} {w w' : World} (h : Below n w w') : Same (Lo n) w w' := ⟨h.size, fun k hk _ => h.block k hk⟩
/-- A block of bytes reads so. -/
theorem bs_block {S : Nat → Prop} {w : World} {g : Nat} {t : TypeId} {l : List UInt8} (h : w.heap[g]? = some (.cells (l.map bv).toArray t (0, 0))) (hS : S g) : Bs S w (some ⟨g, 0, none⟩) l := by
  intro _
  refine ⟨g, 0, rfl, hS, (Array.getElem?_eq_some_iff.1 h).1, fun i hi => ⟨[bv l[i]], rfl, fun j hj => ?_, rfl⟩⟩
  obtain rfl : j = 0 := by omega
  have := box_cell h (0 + i * 1 + 0)
  rw [this]
  simp [hi]
/-- Bytes behind their length. -/
def lpS (p : List UInt8) : List UInt8 := UInt8.ofNat p.length :: p
theorem lp_len (p : List UInt8) : (lpS p).length = p.length + 1 := rfl
theorem wrap_u8 (n : Nat) : IntKind.u8.wrap (n : Int) = ((UInt8.ofNat n).toNat : Int) := by
  simp [IntKind.wrap, IntKind.bits, IntKind.signed]
/-- The call appends onto a row of the caller's. -/
def RetApp (base : Nat) (w : World) (v : Value) (l : List UInt8) (e : Ending) (w' : World) : Prop :=
  ∃ v', e = .returned v' ∧ w'.ownsRow base 5 1 v' l.length (l.map bv) ∧ Below base w w' ∧ Same (fun b => b < w.heap.size ∧ v.ownBlock ≠ some b) w w' ∧ (∀ b, b < w.heap.size → v.ownBlock ≠ some b → v'.ownBlock ≠ some b)
end Go.Proofs.YtjidppcfjkjjoaaDoor
