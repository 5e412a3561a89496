/- Hist: Walks: history.Check, history.Fold and what the references say of them; their laws. Walks: history.Check, history.Fold; the laws HistoryChecks and HistoryFolds. The conditions of each are in its words. -/
import Derived.Test.YtlhpfgpagggdlaaGreatDoorKCommit
import Derived.Test.YtlhpfgpagggdlaaGreatDoorKForest
namespace Go.Proofs.YtlhpfgpagggdlaaGreatDoor
open Go.RowKit
set_option linter.unusedVariables false
set_option linter.unusedSimpArgs false
def aS (l:List Cm) (n:Nat):List Tn:=(l.take n).foldl (fun f c=>(aC4 f c.2).1) []
theorem bZ5 {l:List Cm} {k:Nat} (h:k<l.length):aS l (k+1)=(aC4 (aS l k) l[k].2).1:=by
 unfold aS
 rw[aC8 l k h,List.foldl_append]
 rfl
theorem bZ6 (l:List Cm) (n:Nat):aN0 (aS l n):=by
 unfold aS
 generalize l.take n=m
 have h:∀ (m:List Cm) (f:List Tn),aN0 f→aN0 (m.foldl (fun f c=>(aC4 f c.2).1) f):=by
  intro m
  induction m with
  | nil=>exact fun f h=>h
  | cons c m ih=>exact fun f _=>ih _ (bT3 f c.2)
 exact h m [] rfl
end Go.Proofs.YtlhpfgpagggdlaaGreatDoor
