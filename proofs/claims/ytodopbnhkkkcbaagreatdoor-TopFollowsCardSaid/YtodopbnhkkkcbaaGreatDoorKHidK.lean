/- HidK: A reply among others, with all that it points to. No condition. What a proof that is asked for tells: as if nothing waited. Plain words, no program. A list appended to a row of the call's own, in a region that draws its order; a proof that is asked for. No condition. The conditions of each are in its words. -/
import Derived.Test.YtodopbnhkkkcbaaGreatDoorKTopO
namespace Go.Proofs.YtodopbnhkkkcbaaGreatDoor
open Go.RowKit
set_option linter.unusedVariables false
set_option linter.unusedSimpArgs false
def dE6 (r:Rp) (V:Option Addr) (v:Nat) (P:Option Addr) (p:Nat) (R:Option Addr) (q:Nat) (A:Option Addr) (n:Nat) (K:Option Addr) (a:Nat) (X:Option Addr) (y:Nat) (A':Option Addr) (n':Nat) (K':Option Addr) (a':Nat) (X':Option Addr) (y':Nat):List Value:=[.int .i64 r.session,.int .i64 r.code,.int .i64 r.turn,.bool r.found,.slice V r.value.length v,.slice P r.pairs.length p,.slice R r.root.length q,.bool r.outer.empty,.slice A r.outer.steps.length n,.slice K r.outer.pair.1.length a,.slice X r.outer.pair.2.length y,.bool r.inner.empty,.slice A' r.inner.steps.length n',.slice K' r.inner.pair.1.length a',.slice X' r.inner.pair.2.length y']
theorem rep_vals {S:Nat→Prop} {w:World} {R0:Option Addr} {l:List Rp} (h:SL 15 RpR S w R0 l) {k:Nat} (hk:k<l.length) :
  ∃ b off V v P p R q A n K a X y A' n' K' a' X' y',R0=some ⟨b,off,none⟩∧b<w.heap.size∧(∀ j,j<15→w.cell? ⟨b,off+k*15+j,none⟩=(dE6 l[k] V v P p R q A n K a X y A' n' K' a' X' y')[j]?)∧Bs S w V l[k].value∧Ps S w P l[k].pairs∧Bs S w R l[k].root∧(Sts S w A l[k].outer.steps∧Bs S w K l[k].outer.pair.1∧Bs S w X l[k].outer.pair.2)∧(Sts S w A' l[k].inner.steps∧Bs S w K' l[k].inner.pair.1∧Bs S w X' l[k].inner.pair.2):=by
 obtain⟨b,off,cs,hA,hb,hlt,hlen,hc,V,v,P,p,R,q,A,n,K,a,X,y,A',n',K',a',X',b',rfl,hr⟩:=h.at hk
 exact⟨b,off,V,v,P,p,R,q,A,n,K,a,X,y,A',n',K',a',X',b',hA,hlt,hc,hr⟩
end Go.Proofs.YtodopbnhkkkcbaaGreatDoor
