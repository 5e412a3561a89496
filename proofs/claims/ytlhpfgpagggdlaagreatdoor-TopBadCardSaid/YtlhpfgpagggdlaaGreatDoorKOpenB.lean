/- OpenB: From the form's reading of arguments to the words of Core: bytes, with their room. The conditions of each are in its words. -/
import Derived.Test.YtlhpfgpagggdlaaGreatDoorKOpenA
namespace Go.Proofs.YtlhpfgpagggdlaaGreatDoor
open Go.RowKit Go.ChangeShapes Go.WideShapes Go.ChangeAt Go.Deep
set_option linter.unusedVariables false
set_option linter.unusedSimpArgs false
theorem dC4 {H:Type} {enc:TypeId × Value→H} {w:World} {base:Nat} {spare:Nat→Bool} {held:Bool} {fuel:Nat} {x:DataW H × List MemPlace} {T E:TypeId} (hT:Tryz.prog.underlying T=some (.slice E)) {A:Option Addr} {n c:Nat}
  (h:DataW.trod enc Tryz.prog w base spare held fuel T [.slice A n c]=some x):n≤c:=by
 rcases open_slice hT h with ⟨h0,_⟩|⟨a,len,cap,m,_,D,Pl,h0,_,hl,_⟩
 ·simp at h0;omega
 ·simp at h0;omega
theorem dC5 (w:World) {H:Type} {enc:TypeId × Value→H} {base:Nat} {spare:Nat→Bool} {held:Bool} {fuel:Nat} {cs:List Value} {x:DataW H × List MemPlace}
  (h:DataW.trod enc Tryz.prog w base spare held fuel 47 cs=some x) (hx:(x.1.weights Tryz.prog 47).all (·≤reachBytes)=true) :
  ∃ A l c,cs=[.slice A (l:List UInt8).length c]∧(Bs All w A l∧l.length≤big)∧l.length≤c:=by
 obtain⟨A,l,c,h1,h2,h3⟩:=dB9 w h hx
 refine⟨A,l,c,h1,⟨h2,h3⟩,?_⟩
 subst h1
 exact dC4 Tryz.underlying47 h
end Go.Proofs.YtlhpfgpagggdlaaGreatDoor
