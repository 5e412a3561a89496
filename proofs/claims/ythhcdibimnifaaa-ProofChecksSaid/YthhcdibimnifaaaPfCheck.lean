/- proof.Check: its contract. -/
import Derived.Test.YthhcdibimnifaaaPfChk1
import Derived.Test.YthhcdibimnifaaaPfChk2
namespace Go.Proofs.Ythhcdibimnifaaa
open Go.RowKit
set_option linter.unusedVariables false
set_option linter.unusedSimpArgs false

theorem proofCheck_ok (w : World) (D : Option Addr) (k : List UInt8) (dc : Nat) (A K V : Option Addr) (p : Pf) (n a b : Nat) (hk : Bs All w D k) (ha : Sts All w A p.steps) (hK : Bs All w K p.pair.1) (hV : Bs All w V p.pair.2) (hst : p.steps.length * 40 ≤ 140737488355328) (hl1 : p.pair.1.length ≤ big) (hl2 : p.pair.2.length ≤ big) :
    Calls Try.prog 80 #[.slice D k.length dc, .agg #[.bool p.empty, .slice A p.steps.length n, .slice K p.pair.1.length a, .slice V p.pair.2.length b]] w (RetV w (.int .i64 (proofFaultS k p))) := by
  by_cases hkf : keyFault k = 0
  · rw [proofFault_key hkf]
    by_cases he : p.empty = true
    · rw [he]
      exact proofCheck_empty w D k dc A K V p n a b hk ha hK hV hst hl1 hl2 hkf he
    · have he' : p.empty = false := by simpa using he
      rw [he']
      by_cases hp : pairFaultS p.pair = 0
      · exact proofCheck_good w D k dc A K V p n a b hk ha hK hV hst hl1 hl2 hkf he' hp
      · exact proofCheck_bad w D k dc A K V p n a b hk ha hK hV hst hl1 hl2 hkf he' hp
  · exact proofCheck_key w D k dc A K V p n a b hk ha hK hV hst hl1 hl2 hkf
end Go.Proofs.Ythhcdibimnifaaa
