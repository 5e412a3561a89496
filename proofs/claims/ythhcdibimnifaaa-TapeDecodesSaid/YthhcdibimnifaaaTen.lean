/- Tenants: words for memory. Facts alone. -/
import Derived.Test.YthhcdibimnifaaaPairs
import Derived.Test.YthhcdibimnifaaaFind
namespace Go.Proofs.Ythhcdibimnifaaa
open Go.RowKit
set_option linter.unusedVariables false
set_option linter.unusedSimpArgs false

abbrev Tn := List UInt8 × List Pr
/-- The two cells of a tenant. -/
def TenR (S : Nat → Prop) (w : World) (cs : List Value) (t : Tn) : Prop :=
  ∃ A c B d, cs = [.slice A t.1.length c, .slice B t.2.length d] ∧ Bs S w A t.1 ∧ Ps S w B t.2 ∧ t.1.length ≤ big ∧ t.2.length * 48 ≤ 140737488355328 ∧ t.2.length ≤ d
theorem tenR_stays : Stays TenR :=
  ⟨fun _ _ _ _ _ hb ⟨A, c, B, d, h0, h1, h2, h3⟩ => ⟨A, c, B, d, h0, h1.bsame hb, h2.same pairR_stays hb, h3⟩, fun _ _ _ _ _ hb ⟨A, c, B, d, h0, h1, h2, h3⟩ => ⟨A, c, B, d, h0, h1.bless hb, h2.less pairR_stays hb, h3⟩⟩
theorem info_ten : (Try.prog.info? 122).map (fun i => (i.zero, i.size, i.bytes)) = some (some (.agg #[.slice none 0 0, .slice none 0 0]), 2, 48) := by kernel_rfl
abbrev Ts (S : Nat → Prop) (w : World) (A : Option Addr) (l : List Tn) : Prop := SL 2 TenR S w A l
abbrev RetTs (w : World) (l : List Tn) (e : Ending) (w' : World) : Prop := RetSL 2 TenR w l e w'
theorem tens_at {S : Nat → Prop} {w : World} {A : Option Addr} {l : List Tn} (h : Ts S w A l) {k : Nat} (hk : k < l.length) :
    ∃ b off K c V d, A = some ⟨b, off, none⟩ ∧ S b ∧ b < w.heap.size ∧ w.cell? ⟨b, off + k * 2, none⟩ = some (.slice K l[k].1.length c) ∧ w.cell? ⟨b, off + k * 2 + 1, none⟩ = some (.slice V l[k].2.length d) ∧
      Bs S w K l[k].1 ∧ Ps S w V l[k].2 ∧ l[k].1.length ≤ big ∧ l[k].2.length * 48 ≤ 140737488355328 ∧ l[k].2.length ≤ d := by
  obtain ⟨b, off, cs, e, h0, hlt, h1, h2, A', c, B', d, rfl, h3, h4, h5, h6⟩ := h.at hk
  exact ⟨b, off, A', c, B', d, e, h0, hlt, by simpa using h2 0 (by omega), by simpa using h2 1 (by omega), h3, h4, h5, h6⟩
end Go.Proofs.Ythhcdibimnifaaa
