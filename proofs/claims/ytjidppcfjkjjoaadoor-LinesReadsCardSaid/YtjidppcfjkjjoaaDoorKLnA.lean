/- LnA: Acts as lines: plain words, and words for memory. Facts alone. The contracts of the library that the lines want, as they lie in this program (written by the shelf's lay-plain): (*strings.Builder).String, strconv.Itoa. No condition. Walks: (*strings.Builder).copyCheck and WriteString, at a builder that the call has made and that has only been written. Walk: lines.line of an act that may be. Walk: lines.Show. The conditions of each are in its words. -/
import Derived.Lib.ItoaNum
import Derived.Shelf.Strings.Builder1
import Derived.Shelf.LaysM
import Derived.Shelf.Strconv.Itoa3
import Derived.Test.YtjidppcfjkjjoaaDoorProg
import Derived.Lib.Builder
import Derived.Lib.AppendIntMem
import Derived.Lib.AppendStr
import Derived.Lib.UnsafeStr
import Derived.Lib.Strings
import Derived.Lib.Slices
import Derived.Lib.Walk
import Derived.Laws.Externs
import Derived.BigQuiet
import Derived.Deep.CutRange
import Derived.Test.YtjidppcfjkjjoaaDoorKActK
import Derived.Test.YtjidppcfjkjjoaaDoorKBase
namespace Go.Proofs.YtjidppcfjkjjoaaDoor
open Go.RowKit
set_option linter.unusedVariables false
set_option linter.unusedSimpArgs false

/-- An act. -/
structure Le where
  kind : Int
  session : Int
  keep : Int
  data : List UInt8
/-- The four cells of an act. -/
def LeR (S : Nat → Prop) (w : World) (cs : List Value) (a : Le) : Prop :=
  ∃ A c, cs = [.int .i64 a.kind, .int .i64 a.session, .int .i64 a.keep, .slice A a.data.length c] ∧ Bs S w A a.data ∧ a.data.length ≤ big
theorem leR_stays : Stays LeR :=
  ⟨fun _ _ _ _ _ hb ⟨A, c, h0, h1, h2⟩ => ⟨A, c, h0, h1.bsame hb, h2⟩, fun _ _ _ _ _ hb ⟨A, c, h0, h1, h2⟩ => ⟨A, c, h0, h1.bless hb, h2⟩⟩
abbrev Les (S : Nat → Prop) (w : World) (A : Option Addr) (l : List Le) : Prop := SL 4 LeR S w A l
theorem info_ln : (Tryd.prog.info? 34).map (fun i => (i.zero, i.size, i.bytes)) = some (some (.agg #[.int .i64 0, .int .i64 0, .int .i64 0, .slice none 0 0]), 4, 48) := by kernel_rfl
theorem les_at {S : Nat → Prop} {w : World} {A : Option Addr} {l : List Le} (h : Les S w A l) {k : Nat} (hk : k < l.length) :
    ∃ g off D d, A = some ⟨g, off, none⟩ ∧ S g ∧ g < w.heap.size ∧ w.cell? ⟨g, off + k * 4, none⟩ = some (.int .i64 l[k].kind) ∧ w.cell? ⟨g, off + k * 4 + 1, none⟩ = some (.int .i64 l[k].session) ∧ w.cell? ⟨g, off + k * 4 + 2, none⟩ = some (.int .i64 l[k].keep) ∧ w.cell? ⟨g, off + k * 4 + 3, none⟩ = some (.slice D l[k].data.length d) ∧ Bs S w D l[k].data ∧ l[k].data.length ≤ big := by
  obtain ⟨g, off, cs, e, h0, hlt, h1, h2, D, d, rfl, h3, h4⟩ := h.at hk
  exact ⟨g, off, D, d, e, h0, hlt, h2 0 (by omega), h2 1 (by omega), h2 2 (by omega), h2 3 (by omega), h3, h4⟩
def lnFault (a : Le) : Int := actFaultS a.kind a.session a.keep a.data.length
/-- A hex digit's byte. -/
def hexD (n : Nat) : UInt8 := if n < 10 then UInt8.ofNat (48 + n) else UInt8.ofNat (87 + n)
def hexS (l : List UInt8) : List UInt8 := l.flatMap fun b => [hexD (b.toNat / 16), hexD (b.toNat % 16)]
theorem hexS_next {l : List UInt8} {k : Nat} (h : k < l.length) : hexS (l.take (k + 1)) = hexS (l.take k) ++ [hexD (l[k].toNat / 16), hexD (l[k].toNat % 16)] := by
  unfold hexS
  rw [take_snoc _ _ h, List.flatMap_append]
  simp
theorem hexS_len (l : List UInt8) : (hexS l).length = 2 * l.length := by
  unfold hexS
  induction l with
  | nil => rfl
  | cons b l ih => rw [List.flatMap_cons, List.length_append, ih, List.length_cons]; simp; omega
/-- A line, without its line feed. -/
def lnBody (a : Le) : List UInt8 :=
  if a.kind = 1 then [97, 115, 107, 32] ++ Lib.decDigits a.session.toNat ++ [32] ++ hexS a.data
  else if a.kind = 2 then [115, 121, 110, 99] else if a.kind = 3 then [99, 114, 97, 115, 104, 32] ++ Lib.decDigits a.keep.toNat
  else if a.kind = 4 then [115, 116, 97, 114, 116] else []
def lnS (a : Le) : List UInt8 := lnBody a ++ [10]
def showFrom : List Le → Nat → List UInt8 → List UInt8 × Int × Int
  | [], _, acc => (acc, 0, 0)
  | a :: l, i, acc => if lnFault a ≠ 0 then ([], i, lnFault a) else showFrom l (i + 1) (acc ++ lnS a)
/-- What Show and ActsShown answer. -/
def showS (l : List Le) : List UInt8 × Int × Int := if 100000 < l.length then ([], 0, 1) else showFrom l 0 []
theorem show_at {l : List Le} {k : Nat} {acc : List UInt8} (h : k < l.length) : showFrom (l.drop k) k acc = if lnFault l[k] ≠ 0 then ([], (k : Int), lnFault l[k]) else showFrom (l.drop (k + 1)) (k + 1) (acc ++ lnS l[k]) := by
  rw [List.drop_eq_getElem_cons h]
  rfl
theorem show_end {l : List Le} {k : Nat} {acc : List UInt8} (h : ¬ k < l.length) : showFrom (l.drop k) k acc = (acc, 0, 0) := by
  rw [List.drop_eq_nil_of_le (by omega)]
  rfl
theorem ln_kind {a : Le} (h : lnFault a = 0) : (a.kind = 1 ∧ 0 ≤ a.session ∧ a.session < 8 ∧ a.data.length ≤ 4000) ∨ a.kind = 2 ∨ (a.kind = 3 ∧ 0 ≤ a.keep ∧ a.keep ≤ 200000) ∨ a.kind = 4 := by
  unfold lnFault actFaultS at h
  split at h
  · cases h
  · split at h
    · cases h
    · split at h
      · cases h
      · split at h
        · cases h
        · omega
theorem digits_len (n : Nat) (h : n ≤ 200000) : (Lib.decDigits n).length ≤ 6 := by
  rw [Lib.decDigits]
  split
  · simp
  · rw [List.length_append, Lib.decDigits]
    split
    · simp
    · rw [List.length_append, Lib.decDigits]
      split
      · simp
      · rw [List.length_append, Lib.decDigits]
        split
        · simp
        · rw [List.length_append, Lib.decDigits]
          split
          · simp
          · rw [List.length_append, Lib.decDigits]
            split
            · simp
            · omega
theorem lnBody_len {a : Le} (h : lnFault a = 0) : (lnBody a).length ≤ 8020 := by
  rcases ln_kind h with ⟨h1, h2, h3, h4⟩ | h1 | ⟨h1, h2, h3⟩ | h1
  · unfold lnBody
    rw [if_pos h1]
    have := digits_len a.session.toNat (by omega)
    simp only [List.length_append, hexS_len, List.length_cons, List.length_nil]
    omega
  · simp [lnBody, h1]
  · unfold lnBody
    rw [if_neg (by omega), if_neg (by omega), if_pos h1]
    have := digits_len a.keep.toNat (by omega)
    simp only [List.length_append, List.length_cons, List.length_nil]
    omega
  · simp [lnBody, h1]
theorem lnS_len {a : Le} (h : lnFault a = 0) : (lnS a).length ≤ 8021 := by
  have := lnBody_len h
  unfold lnS
  rw [List.length_append]
  simp
  omega
end Go.Proofs.YtjidppcfjkjjoaaDoor
namespace Go.Proofs
open Go.Shelf
set_option linter.unusedVariables false
set_option linter.unusedSimpArgs false
def Tryd.lays169_ren : Go.Shelf.Ren := ⟨fun | 169 => 15 | n => n, fun | 70 => 36 | 9 => 9 | 0 => 0 | 72 => 38 | 37 => 32 | 127 => 55 | 3 => 3 | 5 => 5 | n => n, fun | n => n⟩
theorem Tryd.lays169 : Go.Proofs.Lays.n169 Tryd.prog Tryd.lays169_ren := {
  mixed := by kernel_rfl
  f169 := Tryd.func15.trans (congrArg some (by kernel_rfl))
  t0 := Tryd.underlying0
  a0 := Tryd.isAgg0
  z0 := Tryd.sizeOf0
  v0 := Tryd.zeroValue0
  t3 := Tryd.underlying3
  a3 := Tryd.isAgg3
  z3 := Tryd.sizeOf3
  v3 := Tryd.zeroValue3
  t9 := Tryd.underlying9
  a9 := Tryd.isAgg9
  z9 := Tryd.sizeOf9
  v9 := Tryd.zeroValue9
  t37 := Tryd.underlying32
  a37 := Tryd.isAgg32
  z37 := Tryd.sizeOf32
  v37 := Tryd.zeroValue32
  t70 := Tryd.underlying36
  a70 := Tryd.isAgg36
  z70 := Tryd.sizeOf36
  v70 := Tryd.zeroValue36
  t72 := Tryd.underlying38
  a72 := Tryd.isAgg38
  z72 := Tryd.sizeOf38
  v72 := Tryd.zeroValue38
  t127 := Tryd.underlying55
  a127 := Tryd.isAgg55
  z127 := Tryd.sizeOf55
  v127 := Tryd.zeroValue55 }
theorem Tryd.Builder_Extra_169 : Builder.Extra Tryd.prog Tryd.lays169_ren := {
  sizeBuilder := by kernel_rfl
  liesBuilder := by kernel_rfl
  t5 := Tryd.underlying5
  a5 := Tryd.isAgg5
  z5 := Tryd.sizeOf5
  v5 := Tryd.zeroValue5
  infoByte := by kernel_rfl
  cellsByte := by kernel_rfl
  sizeByte := by kernel_rfl
  neB5 := by decide }
open Go.RowKit in
/-- (*strings.Builder).String: "String returns the accumulated string.": WHATEVER THE BUILDER HOLDS. (LAID: no walk: one application.) -/
theorem Tryd.Builder_String_any (B b : Nat) (l : List UInt8) (w : World) (h : Lib.IsBuilder 38 5 B b (Lib.byteCells l) w) (hBw : B ≤ w.heap.size) :
    Calls Tryd.prog 15 #[.pointer (some ⟨b, 0, none⟩)] w fun e w' => e = .returned (.string ⟨l.toArray⟩) ∧ Below B w w' := Any.Builder_String_any Tryd.lays169 Tryd.Builder_Extra_169 B b l w h hBw
def Tryd.laysM171_ren : Go.Shelf.Ren := ⟨fun | 171 => 23 | 243 => 36 | 246 => 42 | 283 => 53 | 284 => 54 | 285 => 55 | 286 => 56 | 129 => 65 | 317 => 64 | 318 => 66 | 319 => 67 | 320 => 68 | 337 => 75 | 338 => 76 | n => n, fun | 3 => 3 | 9 => 9 | 2 => 2 | 4 => 4 | 171 => 79 | 0 => 0 | 53 => 80 | 37 => 32 | 5 => 5 | 173 => 83 | 212 => 95 | 51 => 96 | 20 => 20 | 213 => 97 | 46 => 54 | 232 => 111 | 233 => 112 | n => n, fun | 17 => 4 | 18 => 7 | 19 => 8 | n => n⟩
theorem Tryd.laysM171 : Go.Proofs.LaysM.n171 Tryd.prog Tryd.laysM171_ren := {
  mixed := by kernel_rfl
  f129 := Tryd.func65.trans (congrArg some (by kernel_rfl))
  f171 := Tryd.func23.trans (congrArg some (by kernel_rfl))
  f243 := Tryd.func36.trans (congrArg some (by kernel_rfl))
  f246 := Tryd.func42.trans (congrArg some (by kernel_rfl))
  f283 := Tryd.func53.trans (congrArg some (by kernel_rfl))
  f284 := Tryd.func54.trans (congrArg some (by kernel_rfl))
  f285 := Tryd.func55.trans (congrArg some (by kernel_rfl))
  f286 := Tryd.func56.trans (congrArg some (by kernel_rfl))
  f317 := Tryd.func64.trans (congrArg some (by kernel_rfl))
  f318 := Tryd.func66.trans (congrArg some (by kernel_rfl))
  f319 := Tryd.func67.trans (congrArg some (by kernel_rfl))
  f320 := Tryd.func68.trans (congrArg some (by kernel_rfl))
  f337 := Tryd.func75.trans (congrArg some (by kernel_rfl))
  f338 := Tryd.func76.trans (congrArg some (by kernel_rfl))
  t0 := Tryd.underlying0
  a0 := Tryd.isAgg0
  z0 := Tryd.sizeOf0
  v0 := Tryd.zeroValue0
  t2 := Tryd.underlying2
  a2 := Tryd.isAgg2
  z2 := Tryd.sizeOf2
  v2 := Tryd.zeroValue2
  t3 := Tryd.underlying3
  a3 := Tryd.isAgg3
  z3 := Tryd.sizeOf3
  v3 := Tryd.zeroValue3
  t4 := Tryd.underlying4
  a4 := Tryd.isAgg4
  z4 := Tryd.sizeOf4
  v4 := Tryd.zeroValue4
  t5 := Tryd.underlying5
  a5 := Tryd.isAgg5
  z5 := Tryd.sizeOf5
  v5 := Tryd.zeroValue5
  t9 := Tryd.underlying9
  a9 := Tryd.isAgg9
  z9 := Tryd.sizeOf9
  v9 := Tryd.zeroValue9
  t20 := Tryd.underlying20
  a20 := Tryd.isAgg20
  z20 := Tryd.sizeOf20
  v20 := Tryd.zeroValue20
  t37 := Tryd.underlying32
  a37 := Tryd.isAgg32
  z37 := Tryd.sizeOf32
  v37 := Tryd.zeroValue32
  t46 := Tryd.underlying54
  a46 := Tryd.isAgg54
  z46 := Tryd.sizeOf54
  v46 := Tryd.zeroValue54
  t51 := Tryd.underlying96
  a51 := Tryd.isAgg96
  z51 := Tryd.sizeOf96
  v51 := Tryd.zeroValue96
  t53 := Tryd.underlying80
  a53 := Tryd.isAgg80
  z53 := Tryd.sizeOf80
  v53 := Tryd.zeroValue80
  t171 := Tryd.underlying79
  a171 := Tryd.isAgg79
  z171 := Tryd.sizeOf79
  v171 := Tryd.zeroValue79
  t173 := Tryd.underlying83
  a173 := Tryd.isAgg83
  z173 := Tryd.sizeOf83
  v173 := Tryd.zeroValue83
  t212 := Tryd.underlying95
  a212 := Tryd.isAgg95
  z212 := Tryd.sizeOf95
  v212 := Tryd.zeroValue95
  t213 := Tryd.underlying97
  a213 := Tryd.isAgg97
  z213 := Tryd.sizeOf97
  t232 := Tryd.underlying111
  a232 := Tryd.isAgg111
  z232 := Tryd.sizeOf111
  v232 := Tryd.zeroValue111
  t233 := Tryd.underlying112
  a233 := Tryd.isAgg112
  z233 := Tryd.sizeOf112
  v233 := Tryd.zeroValue112
  g17 := by kernel_rfl
  g18 := by kernel_rfl
  g19 := by kernel_rfl
  i0 := by kernel_rfl
  i2 := by kernel_rfl
  i3 := by kernel_rfl
  i4 := by kernel_rfl
  i5 := by kernel_rfl
  i9 := by kernel_rfl
  i20 := by kernel_rfl
  i37 := by kernel_rfl
  i46 := by kernel_rfl
  i51 := by kernel_rfl
  i53 := by kernel_rfl
  i171 := by kernel_rfl
  i173 := by kernel_rfl
  i212 := by kernel_rfl
  i232 := by kernel_rfl
  i233 := by kernel_rfl
  m17 := by kernel_rfl
  m18 := by kernel_rfl
  m19 := by kernel_rfl }
open Go.RowKit Go.Sort Go.Lib in
/-- strconv.Itoa: "Itoa is equivalent to FormatInt(int64(i), 10).": i's DECIMAL NUMERAL ('Lib.itoa': a '-' where i is negative, then the digits), FOR EVERY int. The world behind the call: the world before it, new blocks behind the heap (the library's 'var a [24]byte'), draws. (LAID: no walk: one application.) -/
theorem Tryd.strconv_Itoa (n : Int) (h0 : -9223372036854775808 ≤ n) (h1 : n ≤ 9223372036854775807) (w : World) (htab : Lib.TabIs Tryd.prog w "internal/strconv.uint64pow10" .u64 Lib.pow10Tab) :
    Calls Tryd.prog 23 #[.int .i64 n] w fun e w' => e = .returned (.string ⟨(Lib.itoa n).toArray⟩) ∧ ∃ k os, w' = grow (w.drewN k) os := Any.strconv_Itoa Tryd.laysM171 n h0 h1 w htab
def Tryd.lays171_ren : Go.Shelf.Ren := ⟨fun | 171 => 23 | 243 => 36 | 246 => 42 | 283 => 53 | 284 => 54 | 285 => 55 | 286 => 56 | 129 => 65 | 317 => 64 | 318 => 66 | 319 => 67 | 320 => 68 | 337 => 75 | 338 => 76 | n => n, fun | 3 => 3 | 9 => 9 | 2 => 2 | 4 => 4 | 171 => 79 | 0 => 0 | 53 => 80 | 37 => 32 | 5 => 5 | 173 => 83 | 212 => 95 | 51 => 96 | 20 => 20 | 213 => 97 | 46 => 54 | 232 => 111 | 233 => 112 | n => n, fun | 17 => 4 | 18 => 7 | 19 => 8 | n => n⟩
theorem Tryd.lays171 : Go.Proofs.Lays.n171 Tryd.prog Tryd.lays171_ren := {
  mixed := by kernel_rfl
  f129 := Tryd.func65.trans (congrArg some (by kernel_rfl))
  f171 := Tryd.func23.trans (congrArg some (by kernel_rfl))
  f243 := Tryd.func36.trans (congrArg some (by kernel_rfl))
  f246 := Tryd.func42.trans (congrArg some (by kernel_rfl))
  f283 := Tryd.func53.trans (congrArg some (by kernel_rfl))
  f284 := Tryd.func54.trans (congrArg some (by kernel_rfl))
  f285 := Tryd.func55.trans (congrArg some (by kernel_rfl))
  f286 := Tryd.func56.trans (congrArg some (by kernel_rfl))
  f317 := Tryd.func64.trans (congrArg some (by kernel_rfl))
  f318 := Tryd.func66.trans (congrArg some (by kernel_rfl))
  f319 := Tryd.func67.trans (congrArg some (by kernel_rfl))
  f320 := Tryd.func68.trans (congrArg some (by kernel_rfl))
  f337 := Tryd.func75.trans (congrArg some (by kernel_rfl))
  f338 := Tryd.func76.trans (congrArg some (by kernel_rfl))
  t0 := Tryd.underlying0
  a0 := Tryd.isAgg0
  z0 := Tryd.sizeOf0
  v0 := Tryd.zeroValue0
  t2 := Tryd.underlying2
  a2 := Tryd.isAgg2
  z2 := Tryd.sizeOf2
  v2 := Tryd.zeroValue2
  t3 := Tryd.underlying3
  a3 := Tryd.isAgg3
  z3 := Tryd.sizeOf3
  v3 := Tryd.zeroValue3
  t4 := Tryd.underlying4
  a4 := Tryd.isAgg4
  z4 := Tryd.sizeOf4
  v4 := Tryd.zeroValue4
  t5 := Tryd.underlying5
  a5 := Tryd.isAgg5
  z5 := Tryd.sizeOf5
  v5 := Tryd.zeroValue5
  t9 := Tryd.underlying9
  a9 := Tryd.isAgg9
  z9 := Tryd.sizeOf9
  v9 := Tryd.zeroValue9
  t20 := Tryd.underlying20
  a20 := Tryd.isAgg20
  z20 := Tryd.sizeOf20
  v20 := Tryd.zeroValue20
  t37 := Tryd.underlying32
  a37 := Tryd.isAgg32
  z37 := Tryd.sizeOf32
  v37 := Tryd.zeroValue32
  t46 := Tryd.underlying54
  a46 := Tryd.isAgg54
  z46 := Tryd.sizeOf54
  v46 := Tryd.zeroValue54
  t51 := Tryd.underlying96
  a51 := Tryd.isAgg96
  z51 := Tryd.sizeOf96
  v51 := Tryd.zeroValue96
  t53 := Tryd.underlying80
  a53 := Tryd.isAgg80
  z53 := Tryd.sizeOf80
  v53 := Tryd.zeroValue80
  t171 := Tryd.underlying79
  a171 := Tryd.isAgg79
  z171 := Tryd.sizeOf79
  v171 := Tryd.zeroValue79
  t173 := Tryd.underlying83
  a173 := Tryd.isAgg83
  z173 := Tryd.sizeOf83
  v173 := Tryd.zeroValue83
  t212 := Tryd.underlying95
  a212 := Tryd.isAgg95
  z212 := Tryd.sizeOf95
  v212 := Tryd.zeroValue95
  t213 := Tryd.underlying97
  a213 := Tryd.isAgg97
  z213 := Tryd.sizeOf97
  t232 := Tryd.underlying111
  a232 := Tryd.isAgg111
  z232 := Tryd.sizeOf111
  v232 := Tryd.zeroValue111
  t233 := Tryd.underlying112
  a233 := Tryd.isAgg112
  z233 := Tryd.sizeOf112
  v233 := Tryd.zeroValue112
  g17 := by kernel_rfl
  g18 := by kernel_rfl
  g19 := by kernel_rfl }
open Go.RowKit Go.Sort Go.Lib in
/-- THE ROAD WITHOUT THE TABLE: 0 <= i < 100: NO PREMISE ON THE WORLD, AND THE WORLD IS AS IT WAS: a row that keeps its argument in that range need list no table ('laid = []'). (LAID: no walk: one application.) -/
theorem Tryd.strconv_Itoa_small (i : Nat) (hi : i < 100) (w : World) :
    Calls Tryd.prog 23 #[.int .i64 i] w fun e w' => e = .returned (.string ⟨(Lib.decDigits i).toArray⟩) ∧ w' = w := Any.strconv_Itoa_small Tryd.lays171 i hi w
end Go.Proofs
namespace Go.Proofs.YtjidppcfjkjjoaaDoor
open Go.RowKit
set_option linter.unusedVariables false
set_option linter.unusedSimpArgs false

/-- A builder that holds the bytes l. -/
abbrev Bld (B b : Nat) (l : List UInt8) (w : World) : Prop := Lib.IsBuilder 38 5 B b (Lib.byteCells l) w
theorem info_bld : (Tryd.prog.info? 38).map (·.size) = some 2 := by kernel_rfl
theorem bld_lies : liesAt Tryd.prog Tryd.prog.depth 38 (2 / Tryd.prog.cellsOf 38) 0 38 1 = true := by kernel_rfl
set_option maxHeartbeats 1000000 in
set_option maxRecDepth 100000 in
theorem copyCheck_used (b : Nat) (w : World) (h0 : w.cell? ⟨b, 0, none⟩ = some (.pointer (some ⟨b, 0, none⟩))) :
    Calls Tryd.prog 22 #[.pointer (some ⟨b, 0, none⟩)] w fun e w' => e = .returned (.tuple #[]) ∧ w' = w := by
  obtain ⟨j, hj, _⟩ := Option.map_eq_some_iff.1 info_bld
  go_enter Tryd.func22, Tryd.ntmps22
  go_wp2
  rw [Lib.run_neq_ptr_same w _ Tryd.underlying36 hj]
  go_wp2
  go_end0
  exact ⟨rfl, rfl⟩
set_option maxHeartbeats 1000000 in
set_option maxRecDepth 100000 in
theorem copyCheck_fresh (b : Nat) (w : World) (h0 : w.cell? ⟨b, 0, none⟩ = some (.pointer none)) (hsh : w.shape? b = some (38, 2)) (hfz : w.frozen? ⟨b, 0, none⟩ = false) :
    Calls Tryd.prog 22 #[.pointer (some ⟨b, 0, none⟩)] w fun e w' => e = .returned (.tuple #[]) ∧ w' = w.setCell ⟨b, 0, none⟩ (.pointer (some ⟨b, 0, none⟩)) := by
  obtain ⟨j, hj, hjs⟩ := Option.map_eq_some_iff.1 info_bld
  go_enter Tryd.func22, Tryd.ntmps22
  go_wp2
  rw [Lib.run_to_unsafe w ⟨b, 0, none⟩ Tryd.underlying36 Tryd.underlying65 hj (by rw [hjs]; decide) hsh (Nat.zero_lt_succ 1)]
  simp only [Result.andThen]
  rw [Oper.upon_value]
  go_wp2
  rw [run_callFunc_extern Tryd.func35 (by kernel_rfl) (by kernel_rfl) (by kernel_rfl) (e := Extern.AbiNoEscape.same) (by kernel_rfl)]
  rw [Lib.run_noEscape]
  simp only [Result.andThen]
  rw [Oper.upon_value]
  go_wp2
  rw [Lib.run_from_unsafe w ⟨b, 0, none⟩ Tryd.underlying65 Tryd.underlying36 hj hsh bld_lies]
  simp only [Result.andThen]
  rw [Oper.upon_value]
  go_wp2
  go_end0
  exact ⟨rfl, rfl⟩
theorem copyCheck_ok (B b : Nat) (bs : List Value) (w : World) (h : Lib.IsBuilder 38 5 B b bs w) :
    Calls Tryd.prog 22 #[.pointer (some ⟨b, 0, none⟩)] w fun e w' => e = .returned (.tuple #[]) ∧ (Lib.BuilderAt 38 5 B b (.pointer (some ⟨b, 0, none⟩)) bs w' ∧ Below B w w') := by
  rcases h with h | h
  · refine (copyCheck_fresh b w h.cell0 h.shape h.frozen0).mono ?_
    rintro e w' ⟨rfl, rfl⟩
    exact ⟨rfl, h.used _, (Below.refl B w).setCell (p := ⟨b, 0, none⟩) h.1 _⟩
  · refine (copyCheck_used b w h.cell0).mono ?_
    rintro e w' ⟨rfl, rfl⟩
    exact ⟨rfl, h, Below.refl B _⟩
set_option maxHeartbeats 2000000 in
set_option maxRecDepth 100000 in
theorem writeString_ok (B b : Nat) (l : List UInt8) (s : List UInt8) (w : World) (h : Bld B b l w) (hlen : l.length + s.length ≤ 140737488355328) (hBw : B ≤ w.heap.size) :
    Calls Tryd.prog 13 #[.pointer (some ⟨b, 0, none⟩), .string ⟨s.toArray⟩] w fun e w' => e = .returned (.tuple #[.int .i64 s.length, .nilIface]) ∧ (Bld B b (l ++ s) w' ∧ Below B w w') := by
  have hll := Lib.byteCells_length l
  have hss : (⟨s.toArray⟩ : ByteArray).size = s.length := by simp [ByteArray.size]
  have hcs : Lib.strCells ⟨s.toArray⟩ = Lib.byteCells s := by simp [Lib.strCells, Lib.byteCells]
  obtain ⟨i0, hi, hz0, hz1, hz2⟩ := info_parts info_u8
  have hap : ∀ W, Lib.IsBuilder 38 5 B b (Lib.byteCells l ++ Lib.strCells ⟨s.toArray⟩) W → Bld B b (l ++ s) W := fun W hW => by
    rw [hcs] at hW
    show Lib.IsBuilder _ _ B b (Lib.byteCells (l ++ s)) W
    rw [Lib.byteCells_append]
    exact hW
  have h' : Lib.IsBuilder 38 5 B b (Lib.byteCells l) w := h
  have Hss := Lib.hid hss
  have Hll := Lib.hid hll
  have Hap := Lib.hid hap
  clear hss hcs hll hap h
  generalize (⟨s.toArray⟩ : ByteArray) = S at *
  generalize Lib.byteCells l = bs at *
  go_enter Tryd.func13, Tryd.ntmps13
  go_wp2_with (first
    | (go_at_call 22; refine (copyCheck_ok B b bs _ h').mono ?_; rintro e w1 ⟨rfl, ⟨hB, v, hbk, hown, hne⟩, hb1⟩; have c0 : w1.cell? ⟨b, 0, none⟩ = some (.pointer (some ⟨b, 0, none⟩)) := (by rw [Lib.cell_of_heap hbk]; rfl); have c1 : w1.cell? ⟨b, 1, none⟩ = some v := (by rw [Lib.cell_of_heap hbk]; rfl))
    | (at_builtin; refine Lib.wpList_append_own_string _ rfl _ _ 32 9 rfl B 5 i0 Tryd.underlying32 Tryd.underlying9 hi hz0 hz1 hz2 _ _ _ rfl hown S rfl ?c3 ?c4 ?c5 ?_; (case c3 => (rw [Hss.out, Hll.out]; unfold maxLen; omega)); (case c4 => (rw [Hss.out, Hll.out]; omega)); (case c5 => (have := hb1.size; omega)); intro v' w2 hown' hgrow hzz; have hlt : b < w1.heap.size := (Array.getElem?_eq_some_iff.1 hbk).1; have hb2 : w2.heap[b]? = some (.cells #[.pointer (some ⟨b, 0, none⟩), v] 38 (0, 0)) := (hgrow.block b hlt (fun e => hne e.symm)).trans hbk; have d0 : w2.cell? ⟨b, 0, none⟩ = some (.pointer (some ⟨b, 0, none⟩)) := (by rw [Lib.cell_of_heap hb2]; rfl); have d1 : w2.cell? ⟨b, 1, none⟩ = some v := (by rw [Lib.cell_of_heap hb2]; rfl); have f1 : w2.frozen? ⟨b, 1, none⟩ = false := Lib.frozen_of_heap hb2 1; obtain ⟨ao, n', cap, rfl⟩ : ∃ ao n' cap, v' = .slice ao n' cap := (by rcases hown'.2 with ⟨hv, _⟩ | ⟨g, cap, cur, hv, _⟩; (exact ⟨_, _, _, hv⟩); (exact ⟨_, _, _, hv⟩)); have Hown' := Lib.hid hown'; clear hown'))
  go_ret2
  refine ⟨by rw [Hss.out]; rfl, ?_, ?_⟩
  · exact Hap.out _ (Or.inr (Lib.BuilderAt.put (T := 38) (e := 5) hB hb2 (bs' := bs ++ Lib.strCells S) (by have := Hown'.out; simpa [Lib.strCells_length] using this) (by decide)))
  · exact (hb1.grown hgrow (by have := hb1.size; omega) (fun k hk => (hown.lt k hk).1)).setCell (p := ⟨b, 1, none⟩) hB _
theorem _root_.Go.RowKit.World.ownsRow_below {w w' : World} {B : Nat} {e : TypeId} {size : Nat} {v : Value} {n : Nat} {xs : List Value} (h : w.ownsRow B e size v n xs) (hb : Below w.heap.size w w') : w'.ownsRow B e size v n xs :=
  ⟨h.1, h.2.imp id fun ⟨g, cap, cur, hv, hge, hh, rest⟩ => ⟨g, cap, cur, hv, hge, (hb.block g (Array.getElem?_eq_some_iff.1 hh).1).trans hh, rest⟩⟩
theorem bld_below {B b : Nat} {l : List UInt8} {w w' : World} (h : Bld B b l w) (hb : Below w.heap.size w w') : Bld B b l w' :=
  h.imp (fun ⟨h1, v, h2, h3, h4⟩ => ⟨h1, v, (hb.block b (Array.getElem?_eq_some_iff.1 h2).1).trans h2, World.ownsRow_below h3 hb, h4⟩) fun ⟨h1, v, h2, h3, h4⟩ => ⟨h1, v, (hb.block b (Array.getElem?_eq_some_iff.1 h2).1).trans h2, World.ownsRow_below h3 hb, h4⟩
theorem bld_new (w : World) : Bld w.heap.size w.heap.size [] (w.alloc (.cells #[.pointer none, .slice none 0 0] 38)) := Lib.fresh_isBuilder _ _ w
/-- The tables that lines read. -/
def wordS : Nat → List UInt8
  | 1 => [97, 115, 107]
  | 2 => [115, 121, 110, 99]
  | 3 => [99, 114, 97, 115, 104]
  | 4 => [115, 116, 97, 114, 116]
  | _ => []
structure LnTabs (w : World) : Prop where
  words : ∀ k, k < 5 → w.cell? ⟨0, k, none⟩ = some (.string ⟨(wordS k).toArray⟩)
  size : 0 < w.heap.size
  pow : Lib.TabIs Tryd.prog w "internal/strconv.uint64pow10" .u64 Lib.pow10Tab
theorem LnTabs.below {w w' : World} (h : LnTabs w) (hb : Below w.heap.size w w') : LnTabs w' :=
  ⟨fun k hk => (hb.cell (p := ⟨0, k, none⟩) h.size).trans (h.words k hk), Nat.lt_of_lt_of_le h.size hb.size, Lib.tabBelow_of_tabIs h.pow w' hb⟩
/-- strconv.Itoa at a number that is not below 0. -/
theorem itoa_ok (n : Int) (h0 : 0 ≤ n) (h1 : n ≤ 200000) (w : World) (ht : LnTabs w) :
    Calls Tryd.prog 23 #[.int .i64 n] w fun e w' => e = .returned (.string ⟨(Lib.decDigits n.toNat).toArray⟩) ∧ Below w.heap.size w w' :=
  (Tryd.strconv_Itoa n (by omega) (by omega) w ht.pow).mono fun e w' h => by
    obtain ⟨rfl, k, os, rfl⟩ := h
    refine ⟨?_, Lib.below_grow _ _ (Nat.le_refl _) k os⟩
    unfold Lib.itoa
    rw [if_neg (by omega)]
end Go.Proofs.YtjidppcfjkjjoaaDoor
namespace Go.Proofs.YtjidppcfjkjjoaaDoor
open Go.RowKit
set_option linter.unusedVariables false
set_option linter.unusedSimpArgs false

theorem box4L {w : World} {g : Nat} {t : TypeId} {a b c d : Value} (h : w.heap[g]? = some (.cells #[a, b, c, d] t (0, 0))) :
    w.cell? ⟨g, 0, none⟩ = some a ∧ w.cell? ⟨g, 1, none⟩ = some b ∧ w.cell? ⟨g, 2, none⟩ = some c ∧ w.cell? ⟨g, 3, none⟩ = some d ∧ w.frozen? ⟨g, 0, none⟩ = false ∧ w.frozen? ⟨g, 1, none⟩ = false ∧ w.frozen? ⟨g, 2, none⟩ = false ∧ w.frozen? ⟨g, 3, none⟩ = false :=
  ⟨box_cell (cs := [a, b, c, d]) h 0, box_cell (cs := [a, b, c, d]) h 1, box_cell (cs := [a, b, c, d]) h 2, box_cell (cs := [a, b, c, d]) h 3, box_frozen (cs := [a, b, c, d]) h 0, box_frozen (cs := [a, b, c, d]) h 1, box_frozen (cs := [a, b, c, d]) h 2, box_frozen (cs := [a, b, c, d]) h 3⟩
theorem writeStr_ok (B b : Nat) (l : List UInt8) (S : ByteArray) (w : World) (h : Bld B b l w) (hlen : l.length + S.data.toList.length ≤ 140737488355328) (hBw : B ≤ w.heap.size) :
    Calls Tryd.prog 13 #[.pointer (some ⟨b, 0, none⟩), .string S] w fun e w' => e = .returned (.tuple #[.int .i64 S.data.toList.length, .nilIface]) ∧ (Bld B b (l ++ S.data.toList) w' ∧ Below B w w') := by
  have e : S = ⟨S.data.toList.toArray⟩ := by cases S; simp
  have h2 := writeString_ok B b l S.data.toList w h hlen hBw
  rw [← e] at h2
  exact h2
theorem dig_at : ∀ n, n < 16 → (({ data := #[48, 49, 50, 51, 52, 53, 54, 55, 56, 57, 97, 98, 99, 100, 101, 102] } : ByteArray).extract n (n + 1)).data.toList = [hexD n] := by decide
theorem bld_eq {B b : Nat} {l r : List UInt8} {w : World} (h : Bld B b l w) (e : l = r) : Bld B b r w := e ▸ h
set_option maxRecDepth 100000 in
set_option maxHeartbeats 2000000 in
theorem line_ok (w : World) (hT : LnTabs w) (a : Le) (D : Option Addr) (n : Nat) (h0 : lnFault a = 0) (hD : Bs All w D a.data) :
    Calls Tryd.prog 14 #[.agg #[.int .i64 a.kind, .int .i64 a.session, .int .i64 a.keep, .slice D a.data.length n]] w fun e w' => e = .returned (.string ⟨(lnS a).toArray⟩) ∧ Below w.heap.size w w' := by
  have hb0 := (Below.refl w.heap.size w).alloc (Nat.le_refl _) (.cells #[.int .i64 a.kind, .int .i64 a.session, .int .i64 a.keep, .slice D a.data.length n] 34)
  have hx0 := box_new w #[.int .i64 a.kind, .int .i64 a.session, .int .i64 a.keep, .slice D a.data.length n] 34
  have hn0 := bld_new (w.alloc (.cells #[.int .i64 a.kind, .int .i64 a.session, .int .i64 a.keep, .slice D a.data.length n] 34))
  have hb1 := hb0.alloc hb0.size (.cells #[.pointer none, .slice none 0 0] 38)
  have hx1 := (heap_alloc_old (w.alloc (.cells #[.int .i64 a.kind, .int .i64 a.session, .int .i64 a.keep, .slice D a.data.length n] 34)) (.cells #[.pointer none, .slice none 0 0] 38) (show w.heap.size < _ by simp)).trans hx0
  have hsz : ((w.alloc (.cells #[.int .i64 a.kind, .int .i64 a.session, .int .i64 a.keep, .slice D a.data.length n] 34)).alloc (.cells #[.pointer none, .slice none 0 0] 38)).heap.size = w.heap.size + 2 := by simp
  have hne : (w.alloc (.cells #[.int .i64 a.kind, .int .i64 a.session, .int .i64 a.keep, .slice D a.data.length n] 34)).heap.size = w.heap.size + 1 := by simp
  rw [hne] at hn0
  have HT := Lib.hid hT
  have HD := Lib.hid hD
  clear hT hD hb0 hx0 hne
  go_enter Tryd.func14, Tryd.ntmps14
  go_upto_region 3 with fail
  obtain ⟨w1, hw1e⟩ : ∃ w1, w1 = ((w.alloc (.cells #[.int .i64 a.kind, .int .i64 a.session, .int .i64 a.keep, .slice D a.data.length n] 34)).alloc (.cells #[.pointer none, .slice none 0 0] 38)) := ⟨_, rfl⟩
  rw [← hw1e] at hn0 hb1 hx1 hsz ⊢
  obtain ⟨b, hbe⟩ : ∃ b, b = w.heap.size + 1 := ⟨_, rfl⟩
  rw [← hbe] at hn0 ⊢
  obtain ⟨g, hge⟩ : ∃ g, g = w.heap.size := ⟨_, rfl⟩
  rw [← hge] at hx1 ⊢
  have hgb : g < b := by omega
  have hwb : w.heap.size ≤ b := by omega
  have hb1' : b < w1.heap.size := by omega
  have hg1 : g < w1.heap.size := by omega
  have hw1 : Below b w1 w1 := Below.refl _ _
  have Hb := Lib.hid hb1
  have Hn1 := Lib.hid hn0
  have Hx := Lib.hid hx1
  have Hbe := Lib.hid hsz
  have htw := (HT.out.below hb1).words
  have hgw := (HT.out.below hb1).size
  obtain ⟨z0, z1, z2, z3, _⟩ := box4L hx1
  clear hw1e hbe hge hb1 hn0 hx1 hsz
  rcases ln_kind h0 with ⟨h1, h2, h3, h4⟩ | h1 | ⟨h1, h2, h3⟩ | h1
  · have hv := Lib.hid (show lnS a = [97, 115, 107, 32] ++ Lib.decDigits a.session.toNat ++ [32] ++ hexS a.data ++ [10] by unfold lnS lnBody; rw [if_pos h1])
    rw [h1] at z0
    have h1w := htw 1 (by omega)
    have h1' := Lib.hid h1
    have hd := digits_len a.session.toNat (by omega)
    clear htw h1 h0
    go_upto_region 4 with (go_at_call 13; (refine (writeStr_ok b b ([]) _ _ Hn1.out ?hl ?hz).mono ?_); (case hl => (simp [wordS])); (case hz => (have := hw1.size; omega)); rintro e w2 ⟨rfl, hn2, hv2⟩; have Hn2 := Lib.hid (bld_eq (r := wordS 1) hn2 (by simp)); have hw2 : Below b w1 w2 := hw1.trans hv2; clear hn2 hv2; obtain ⟨z0, z1, z2, z3, _⟩ := box4L ((hw2.block g hgb).trans Hx.out); have hg2 : g < w2.heap.size := (by have := hw2.size; omega); have hb2 : b < w2.heap.size := (by have := hw2.size; omega))
    rw [h1'.out] at z0
    go_upto_region 6 with fail
    go_upto_region 7 with (first
      | (go_at_call 23; (refine (itoa_ok a.session h2 (by omega) _ (HT.out.below (Hb.out.trans (hw2.mono hwb)))).mono ?_); rintro e w3 ⟨rfl, hv3⟩; have hw3 : Below b w1 w3 := hw2.trans (hv3.mono (by have := hw2.size; omega)); have Hn3 := Lib.hid (bld_below Hn2.out hv3); clear hv3; obtain ⟨z0, z1, z2, z3, _⟩ := box4L ((hw3.block g hgb).trans Hx.out); have hg3 : g < w3.heap.size := (by have := hw3.size; omega); have hb3 : b < w3.heap.size := (by have := hw3.size; omega))
      | (go_at_call 13; (refine (writeStr_ok b b (wordS 1) _ _ Hn3.out ?hl ?hz).mono ?_); (case hl => (simp [wordS]; omega)); (case hz => (have := hw3.size; omega)); rintro e w4 ⟨rfl, hn4, hv4⟩; have Hn4 := Lib.hid (bld_eq (r := wordS 1 ++ ([32] ++ Lib.decDigits a.session.toNat ++ [32])) hn4 (by simp)); have hw4 : Below b w1 w4 := hw3.trans hv4; clear hn4 hv4; obtain ⟨z0, z1, z2, z3, _⟩ := box4L ((hw4.block g hgb).trans Hx.out); have hg4 : g < w4.heap.size := (by have := hw4.size; omega); have hb4 : b < w4.heap.size := (by have := hw4.size; omega)))
    go_wp2
    go_loopw [28] (fun i wr => ∃ k : Nat, k ≤ a.data.length ∧ i = .int .i64 k ∧ Bld b b (wordS 1 ++ ([32] ++ Lib.decDigits a.session.toNat ++ [32]) ++ hexS (a.data.take k)) wr ∧ Below b w1 wr) (fun i _ => a.data.length - (intOf i).toNat)
    case atStart => exact ⟨0, Nat.zero_le _, rfl, bld_eq Hn4.out (by simp [hexS]), hw4⟩
    case round =>
      obtain ⟨k, hk, rfl, hn5, hw5⟩ := hrel
      have Hn5 := Lib.hid hn5
      obtain ⟨z0, z1, z2, z3, _⟩ := box4L ((hw5.block g hgb).trans Hx.out)
      have hg5 : g < wr.heap.size := by have := hw5.size; omega
      have hb5 : b < wr.heap.size := by have := hw5.size; omega
      clear hn5
      by_cases hlt : k < a.data.length
      · obtain ⟨db, dof, hX, _, hdl, hdc⟩ := (HD.out.bbelow (Hb.out.trans (hw5.mono hwb))).bat hlt
        subst hX
        have Hsn := Lib.hid (hexS_next hlt)
        generalize a.data[k] = c at *
        have hi0 : (0 : Int) ≤ (k : Int) := by omega
        have hi1 : (k : Int) < (a.data.length : Int) := by omega
        have hc := c.toNat_lt
        have hc16 : c.toNat / 16 < 16 := by omega
        have hm16 : c.toNat % 16 < 16 := by omega
        go_upto_region 10 with fail
        go_upto_region 11 with (go_at_call 13; (refine (writeStr_ok b b (wordS 1 ++ ([32] ++ Lib.decDigits a.session.toNat ++ [32]) ++ hexS (a.data.take k)) _ _ Hn5.out ?hl ?hz).mono ?_); (case hl => (rw [dig_at _ hc16]; simp [wordS, hexS_len]; omega)); (case hz => (have := hw5.size; omega)); rintro e w6 ⟨rfl, hn6, hv6⟩; have Hn6 := Lib.hid (bld_eq (r := wordS 1 ++ ([32] ++ Lib.decDigits a.session.toNat ++ [32]) ++ hexS (a.data.take k) ++ [hexD (c.toNat / 16)]) hn6 (by rw [dig_at _ hc16])); have hw6 : Below b w1 w6 := hw5.trans hv6; clear hn6 hv6; obtain ⟨z0, z1, z2, z3, _⟩ := box4L ((hw6.block g hgb).trans Hx.out); have hg6 : g < w6.heap.size := (by have := hw6.size; omega); have hb6 : b < w6.heap.size := (by have := hw6.size; omega))
        go_wp2_with (go_at_call 13; (refine (writeStr_ok b b (wordS 1 ++ ([32] ++ Lib.decDigits a.session.toNat ++ [32]) ++ hexS (a.data.take k) ++ [hexD (c.toNat / 16)]) _ _ Hn6.out ?hl ?hz).mono ?_); (case hl => (rw [dig_at _ hm16]; simp [wordS, hexS_len]; omega)); (case hz => (have := hw6.size; omega)); rintro e w7 ⟨rfl, hn7, hv7⟩; have Hn7 := Lib.hid (bld_eq (r := wordS 1 ++ ([32] ++ Lib.decDigits a.session.toNat ++ [32]) ++ hexS (a.data.take k) ++ [hexD (c.toNat / 16)] ++ [hexD (c.toNat % 16)]) hn7 (by rw [dig_at _ hm16])); have hw7 : Below b w1 w7 := hw6.trans hv7; clear hn7 hv7; obtain ⟨z0, z1, z2, z3, _⟩ := box4L ((hw7.block g hgb).trans Hx.out); have hg7 : g < w7.heap.size := (by have := hw7.size; omega); have hb7 : b < w7.heap.size := (by have := hw7.size; omega))
        go_roundw
        case rel => exact ⟨k + 1, by omega, by go_num, bld_eq Hn7.out (by rw [Hsn.out]; simp), hw7⟩
        case measure => simp [intOf]; omega
      · obtain rfl : k = a.data.length := by omega
        have Hn5' := Lib.hid (bld_eq Hn5.out (by rw [List.take_length]))
        go_upto_region 15 with fail
        go_upto_region 16 with (go_at_call 13; (refine (writeStr_ok b b (wordS 1 ++ ([32] ++ Lib.decDigits a.session.toNat ++ [32]) ++ hexS a.data) _ _ Hn5'.out ?hl ?hz).mono ?_); (case hl => (simp [wordS, hexS_len]; omega)); (case hz => (have := hw5.size; omega)); rintro e w8 ⟨rfl, hn8, hv8⟩; have Hn8 := Lib.hid (bld_eq (r := wordS 1 ++ ([32] ++ Lib.decDigits a.session.toNat ++ [32]) ++ hexS a.data ++ [10]) hn8 (by simp)); have hw8 : Below b w1 w8 := hw5.trans hv8; clear hn8 hv8; obtain ⟨z0, z1, z2, z3, _⟩ := box4L ((hw8.block g hgb).trans Hx.out); have hg8 : g < w8.heap.size := (by have := hw8.size; omega); have hb8 : b < w8.heap.size := (by have := hw8.size; omega))
        go_wp2_with (go_at_call 15; (refine (Tryd.Builder_String_any b b (wordS 1 ++ ([32] ++ Lib.decDigits a.session.toNat ++ [32]) ++ hexS a.data ++ [10]) _ Hn8.out (by have := hw8.size; omega)).mono ?_); rintro e w9 ⟨rfl, hv9⟩; have hw9 : Below b w1 w9 := hw8.trans hv9)
        go_ret
        refine ⟨?_, Hb.out.trans (hw9.mono (by omega))⟩
        rw [hv.out]
        simp [wordS]
  · have hv := Lib.hid (show lnS a = [115, 121, 110, 99] ++ [10] by unfold lnS lnBody; simp [h1])
    rw [h1] at z0
    have h1w := htw 2 (by omega)
    have h1' := Lib.hid h1
    clear htw h1 h0
    go_upto_region 4 with (go_at_call 13; (refine (writeStr_ok b b ([]) _ _ Hn1.out ?hl ?hz).mono ?_); (case hl => (simp [wordS])); (case hz => (have := hw1.size; omega)); rintro e w2 ⟨rfl, hn2, hv2⟩; have Hn2 := Lib.hid (bld_eq (r := wordS 2) hn2 (by simp)); have hw2 : Below b w1 w2 := hw1.trans hv2; clear hn2 hv2; obtain ⟨z0, z1, z2, z3, _⟩ := box4L ((hw2.block g hgb).trans Hx.out); have hg2 : g < w2.heap.size := (by have := hw2.size; omega); have hb2 : b < w2.heap.size := (by have := hw2.size; omega))
    rw [h1'.out] at z0
    go_upto_region 15 with fail
    go_upto_region 16 with (go_at_call 13; (refine (writeStr_ok b b (wordS 2) _ _ Hn2.out ?hl ?hz).mono ?_); (case hl => (simp [wordS])); (case hz => (have := hw2.size; omega)); rintro e w3 ⟨rfl, hn3, hv3⟩; have Hn3 := Lib.hid (bld_eq (r := wordS 2 ++ [10]) hn3 (by simp)); have hw3 : Below b w1 w3 := hw2.trans hv3; clear hn3 hv3; obtain ⟨z0, z1, z2, z3, _⟩ := box4L ((hw3.block g hgb).trans Hx.out); have hg3 : g < w3.heap.size := (by have := hw3.size; omega); have hb3 : b < w3.heap.size := (by have := hw3.size; omega))
    go_wp2_with (go_at_call 15; (refine (Tryd.Builder_String_any b b (wordS 2 ++ [10]) _ Hn3.out (by have := hw3.size; omega)).mono ?_); rintro e w9 ⟨rfl, hv9⟩; have hw9 : Below b w1 w9 := hw3.trans hv9)
    go_ret
    refine ⟨?_, Hb.out.trans (hw9.mono (by omega))⟩
    rw [hv.out]
    simp [wordS]
  · have hv := Lib.hid (show lnS a = [99, 114, 97, 115, 104] ++ ([32] ++ Lib.decDigits a.keep.toNat) ++ [10] by unfold lnS lnBody; simp [h1])
    rw [h1] at z0
    have h1w := htw 3 (by omega)
    have h1' := Lib.hid h1
    have hd := digits_len a.keep.toNat (by omega)
    clear htw h1 h0
    go_upto_region 4 with (go_at_call 13; (refine (writeStr_ok b b ([]) _ _ Hn1.out ?hl ?hz).mono ?_); (case hl => (simp [wordS])); (case hz => (have := hw1.size; omega)); rintro e w2 ⟨rfl, hn2, hv2⟩; have Hn2 := Lib.hid (bld_eq (r := wordS 3) hn2 (by simp)); have hw2 : Below b w1 w2 := hw1.trans hv2; clear hn2 hv2; obtain ⟨z0, z1, z2, z3, _⟩ := box4L ((hw2.block g hgb).trans Hx.out); have hg2 : g < w2.heap.size := (by have := hw2.size; omega); have hb2 : b < w2.heap.size := (by have := hw2.size; omega))
    rw [h1'.out] at z0
    go_upto_region 14 with fail
    go_upto_region 15 with (first
      | (go_at_call 23; (refine (itoa_ok a.keep h2 h3 _ (HT.out.below (Hb.out.trans (hw2.mono hwb)))).mono ?_); rintro e w3 ⟨rfl, hv3⟩; have hw3 : Below b w1 w3 := hw2.trans (hv3.mono (by have := hw2.size; omega)); have Hn3 := Lib.hid (bld_below Hn2.out hv3); clear hv3; obtain ⟨z0, z1, z2, z3, _⟩ := box4L ((hw3.block g hgb).trans Hx.out); have hg3 : g < w3.heap.size := (by have := hw3.size; omega); have hb3 : b < w3.heap.size := (by have := hw3.size; omega))
      | (go_at_call 13; (refine (writeStr_ok b b (wordS 3) _ _ Hn3.out ?hl ?hz).mono ?_); (case hl => (simp [wordS]; omega)); (case hz => (have := hw3.size; omega)); rintro e w4 ⟨rfl, hn4, hv4⟩; have Hn4 := Lib.hid (bld_eq (r := wordS 3 ++ ([32] ++ Lib.decDigits a.keep.toNat)) hn4 (by simp)); have hw4 : Below b w1 w4 := hw3.trans hv4; clear hn4 hv4; obtain ⟨z0, z1, z2, z3, _⟩ := box4L ((hw4.block g hgb).trans Hx.out); have hg4 : g < w4.heap.size := (by have := hw4.size; omega); have hb4 : b < w4.heap.size := (by have := hw4.size; omega)))
    go_upto_region 16 with (go_at_call 13; (refine (writeStr_ok b b (wordS 3 ++ ([32] ++ Lib.decDigits a.keep.toNat)) _ _ Hn4.out ?hl ?hz).mono ?_); (case hl => (simp [wordS]; omega)); (case hz => (have := hw4.size; omega)); rintro e w5 ⟨rfl, hn5, hv5⟩; have Hn5 := Lib.hid (bld_eq (r := wordS 3 ++ ([32] ++ Lib.decDigits a.keep.toNat) ++ [10]) hn5 (by simp)); have hw5 : Below b w1 w5 := hw4.trans hv5; clear hn5 hv5; obtain ⟨z0, z1, z2, z3, _⟩ := box4L ((hw5.block g hgb).trans Hx.out); have hg5 : g < w5.heap.size := (by have := hw5.size; omega); have hb5 : b < w5.heap.size := (by have := hw5.size; omega))
    go_wp2_with (go_at_call 15; (refine (Tryd.Builder_String_any b b (wordS 3 ++ ([32] ++ Lib.decDigits a.keep.toNat) ++ [10]) _ Hn5.out (by have := hw5.size; omega)).mono ?_); rintro e w9 ⟨rfl, hv9⟩; have hw9 : Below b w1 w9 := hw5.trans hv9)
    go_ret
    refine ⟨?_, Hb.out.trans (hw9.mono (by omega))⟩
    rw [hv.out]
    simp [wordS]
  · have hv := Lib.hid (show lnS a = [115, 116, 97, 114, 116] ++ [10] by unfold lnS lnBody; simp [h1])
    rw [h1] at z0
    have h1w := htw 4 (by omega)
    have h1' := Lib.hid h1
    clear htw h1 h0
    go_upto_region 4 with (go_at_call 13; (refine (writeStr_ok b b ([]) _ _ Hn1.out ?hl ?hz).mono ?_); (case hl => (simp [wordS])); (case hz => (have := hw1.size; omega)); rintro e w2 ⟨rfl, hn2, hv2⟩; have Hn2 := Lib.hid (bld_eq (r := wordS 4) hn2 (by simp)); have hw2 : Below b w1 w2 := hw1.trans hv2; clear hn2 hv2; obtain ⟨z0, z1, z2, z3, _⟩ := box4L ((hw2.block g hgb).trans Hx.out); have hg2 : g < w2.heap.size := (by have := hw2.size; omega); have hb2 : b < w2.heap.size := (by have := hw2.size; omega))
    rw [h1'.out] at z0
    go_upto_region 15 with fail
    go_upto_region 16 with (go_at_call 13; (refine (writeStr_ok b b (wordS 4) _ _ Hn2.out ?hl ?hz).mono ?_); (case hl => (simp [wordS])); (case hz => (have := hw2.size; omega)); rintro e w3 ⟨rfl, hn3, hv3⟩; have Hn3 := Lib.hid (bld_eq (r := wordS 4 ++ [10]) hn3 (by simp)); have hw3 : Below b w1 w3 := hw2.trans hv3; clear hn3 hv3; obtain ⟨z0, z1, z2, z3, _⟩ := box4L ((hw3.block g hgb).trans Hx.out); have hg3 : g < w3.heap.size := (by have := hw3.size; omega); have hb3 : b < w3.heap.size := (by have := hw3.size; omega))
    go_wp2_with (go_at_call 15; (refine (Tryd.Builder_String_any b b (wordS 4 ++ [10]) _ Hn3.out (by have := hw3.size; omega)).mono ?_); rintro e w9 ⟨rfl, hv9⟩; have hw9 : Below b w1 w9 := hw3.trans hv9)
    go_ret
    refine ⟨?_, Hb.out.trans (hw9.mono (by omega))⟩
    rw [hv.out]
    simp [wordS]
end Go.Proofs.YtjidppcfjkjjoaaDoor
namespace Go.Proofs.YtjidppcfjkjjoaaDoor
open Go.RowKit
set_option linter.unusedVariables false
set_option linter.unusedSimpArgs false

/-- The call returns a text, a number and an error's number. -/
def RetShow (w : World) (r : List UInt8 × Int × Int) (e : Ending) (w' : World) : Prop := e = .returned (.tuple #[.string ⟨r.1.toArray⟩, .int .i64 r.2.1, .int .i64 r.2.2]) ∧ Below w.heap.size w w'
set_option maxRecDepth 100000 in
set_option maxHeartbeats 2000000 in
theorem show_ok (w : World) (hT : LnTabs w) (A : Option Addr) (l : List Le) (c : Nat) (hA : Les All w A l) :
    Calls Tryd.prog 6 #[.slice A l.length c] w (RetShow w (showS l)) := by
  by_cases hL : 100000 < l.length
  · have Hv := Lib.hid (show showS l = ([], 0, 1) by unfold showS; rw [if_pos hL])
    have b1 : decide ((100000 : Int) < (l.length : Int)) = true := by simp; omega
    clear hL
    go_enter Tryd.func6, Tryd.ntmps6
    go_wp2
    go_ret3
    rw [Hv.out]
    exact ⟨rfl, Below.refl _ _⟩
  · have Hv := Lib.hid (show showS l = showFrom l 0 [] by unfold showS; rw [if_neg hL])
    have b1 : decide ((100000 : Int) < (l.length : Int)) = false := by simp; omega
    have hb1 := (Below.refl w.heap.size w).alloc (Nat.le_refl _) (.cells #[.pointer none, .slice none 0 0] 38)
    have hn1 := bld_new w
    have HT := Lib.hid hT
    have HA := Lib.hid hA
    have hL' : l.length ≤ 100000 := by omega
    clear hT hA hL
    go_enter Tryd.func6, Tryd.ntmps6
    go_upto_region 4 with fail
    obtain ⟨w1, hw1e⟩ : ∃ w1, w1 = w.alloc (.cells #[.pointer none, .slice none 0 0] 38) := ⟨_, rfl⟩
    rw [← hw1e] at hn1 hb1 ⊢
    obtain ⟨b, hbe⟩ : ∃ b, b = w.heap.size := ⟨_, rfl⟩
    have hwb : w.heap.size ≤ b := by omega
    rw [← hbe] at hn1 ⊢
    have Hb := Lib.hid hb1
    have Hn1 := Lib.hid hn1
    clear hw1e hbe hb1 hn1 b1
    go_wp2
    go_loopw [14] (fun i wr => ∃ (k : Nat) (acc : List UInt8), k ≤ l.length ∧ i = .int .i64 k ∧ Bld b b acc wr ∧ showFrom (l.drop k) k acc = showFrom l 0 [] ∧ acc.length ≤ 8021 * k ∧ Below w.heap.size w wr) (fun i _ => l.length - (intOf i).toNat)
    case atStart => exact ⟨0, [], Nat.zero_le _, rfl, Hn1.out, rfl, Nat.zero_le _, Hb.out⟩
    case round =>
      obtain ⟨k, acc, hk, rfl, hn, hsh, hal, hbel⟩ := hrel
      have Hn := Lib.hid hn
      have Hsh := Lib.hid hsh
      have Hbel := Lib.hid hbel
      have hbz := hbel.size
      have hbb : b < wr.heap.size := by rcases hn with h | h <;> obtain ⟨_, v, h2, _⟩ := h <;> exact (Array.getElem?_eq_some_iff.1 h2).1
      clear hn hsh hbel
      by_cases hlt : k < l.length
      · obtain ⟨g, off, D, d, hX, _, hgl, hc0, hc1, hc2, hc3, hd, hdl⟩ := les_at (HA.out.below leR_stays Hbel.out) hlt
        subst hX
        have Hd := Lib.hid hd
        have Hat := Lib.hid (show_at (acc := acc) hlt)
        generalize l[k] = a at *
        have hi0 : (0 : Int) ≤ (k : Int) := by omega
        have hi1 : (k : Int) < (l.length : Int) := by omega
        have hwg := (Below.refl wr.heap.size wr).alloc (Nat.le_refl _) (.cells #[.int .i64 a.kind, .int .i64 a.session, .int .i64 a.keep, .slice D a.data.length d] 34)
        have hbg := box_new wr #[.int .i64 a.kind, .int .i64 a.session, .int .i64 a.keep, .slice D a.data.length d] 34
        clear hd
        go_upto_region 7 with fail
        obtain ⟨wg, hwge⟩ : ∃ wg, wg = wr.alloc (.cells #[.int .i64 a.kind, .int .i64 a.session, .int .i64 a.keep, .slice D a.data.length d] 34) := ⟨_, rfl⟩
        rw [← hwge] at hwg hbg ⊢
        obtain ⟨gb, hgbe⟩ : ∃ gb, gb = wr.heap.size := ⟨_, rfl⟩
        rw [← hgbe] at hbg ⊢
        have hgbl := (Array.getElem?_eq_some_iff.1 hbg).1
        obtain ⟨z0, z1, z2, z3, _⟩ := box4L hbg
        have Hbg := Lib.hid hbg
        have Hwg := Lib.hid hwg
        have hzg := hwg.size
        clear hwge hgbe hwg hbg hc0 hc1 hc2 hc3
        by_cases hf : lnFault a = 0
        · have Hf := Lib.hid hf
          have hat := Hat.out
          rw [if_neg (by simpa using hf), Hsh.out] at hat
          have Hat2 := Lib.hid hat
          have hlen := lnS_len hf
          clear hat hf
          go_wp2_with (first
            | (go_at_call 12; (refine (linesCheck_ok _ a.kind a.session a.keep D a.data.length d).mono ?_); rw [show actFaultS a.kind a.session a.keep a.data.length = 0 from Hf.out]; rintro e w2 ⟨rfl, hv2⟩; have hz2 := hv2.size; have Hn2 := Lib.hid (bld_below (bld_below Hn.out Hwg.out) hv2); obtain ⟨z0, z1, z2, z3, _⟩ := box4L ((hv2.block gb hgbl).trans Hbg.out); have hg2 : gb < w2.heap.size := (by omega); have Hw2 := Lib.hid (Hwg.out.trans (hv2.mono (by omega))); clear hv2)
            | (go_at_call 14; (refine (line_ok _ (HT.out.below (Hbel.out.trans (Hw2.out.mono hbz))) a D d Hf.out (Hd.out.bbelow Hw2.out)).mono ?_); rintro e w3 ⟨rfl, hv3⟩; have hz3 := hv3.size; have Hn3 := Lib.hid (bld_below Hn2.out hv3); have Hw3 := Lib.hid (Hw2.out.trans (hv3.mono (by omega))); clear hv3)
            | (go_at_call 13; (refine (writeString_ok b b acc (lnS a) _ Hn3.out (by omega) (by omega)).mono ?_); rintro e w4 ⟨rfl, hn4, hv4⟩; have Hn4 := Lib.hid hn4; clear hn4))
          go_roundw
          case rel => exact ⟨k + 1, acc ++ lnS a, by omega, by go_num, Hn4.out, Hat2.out.symm, by rw [List.length_append]; omega, (Hbel.out.trans (Hw3.out.mono hbz)).trans (hv4.mono hwb)⟩
          case measure => simp [intOf]; omega
        · have hat := Hat.out
          rw [if_pos hf, Hsh.out] at hat
          have Hat2 := Lib.hid hat
          have b2 : (actFaultS a.kind a.session a.keep a.data.length != 0) = true := by simpa [lnFault] using hf
          clear hat hf
          go_wp2_with (go_at_call 12; (refine (linesCheck_ok _ a.kind a.session a.keep D a.data.length d).mono ?_); rintro e w2 ⟨rfl, hv2⟩)
          go_ret3
          rw [Hv.out, Hat2.out]
          exact ⟨rfl, (Hbel.out.trans (Hwg.out.mono hbz)).trans (hv2.mono (by omega))⟩
      · have hend := show_end (acc := acc) hlt
        rw [Hsh.out] at hend
        have Hend := Lib.hid hend
        clear hend
        go_wp2_with (go_at_call 15; (refine (Tryd.Builder_String_any b b acc _ Hn.out (by omega)).mono ?_); rintro e w2 ⟨rfl, hv2⟩)
        go_ret3
        rw [Hv.out, Hend.out]
        exact ⟨rfl, Hbel.out.trans (hv2.mono hwb)⟩
end Go.Proofs.YtjidppcfjkjjoaaDoor
