/- OpenA: From the form's reading of arguments to the words of Core: what comes in as data reads as lists. From the form's reading of arguments to the words of Core: tenants. From the form's reading of arguments to the words of Core: acts, tapes. From the form's reading of arguments to the words of Core: tapes. The conditions of each are in its words. -/
import Derived.Test.YtablgnacmpcfeaaGreatDoorRows
import Derived.ProofKit
import Derived.OpenShut
import Derived.ShutString
import Derived.ChangeOld
import Derived.SizedLaws
import Derived.Deep.Slices
import Derived.Deep.Fields
import Derived.Test.YtablgnacmpcfeaaGreatDoorKBase
import Derived.Test.YtablgnacmpcfeaaGreatDoorKForest
import Derived.Test.YtablgnacmpcfeaaGreatDoorKTapeK
namespace Go.Proofs.YtablgnacmpcfeaaGreatDoor
open Go.RowKit Go.ChangeShapes Go.WideShapes Go.ChangeAt Go.Deep
set_option linter.unusedVariables false
set_option linter.unusedSimpArgs false
def Opens {α:Type} (R:(Nat→Prop)→World→List Value→α→Prop) (w:World) (T:TypeId):Prop :=
 ∀ (H:Type) (enc:TypeId × Value→H) (base:Nat) (spare:Nat→Bool) (held:Bool) (fuel:Nat) (cs:List Value) (x:DataW H × List MemPlace),
  DataW.trod enc Tryz.prog w base spare held fuel T cs=some x→(x.1.weights Tryz.prog T).all (·≤reachBytes)=true→∃ d,R All w cs d
theorem cS6 {α:Type} (p:Nat→α→Prop):∀ n:Nat,(∀ i,i<n→∃ d,p i d)→∃ l:List α,l.length=n∧∀ i (h:i<l.length),p i l[i]
 | 0,_=>⟨[],rfl,fun i h=>absurd h ZH2⟩
 | n+1,h=>by
  obtain⟨l,hl,hp⟩:=cS6 p n (fun i hi=>h i AO)
  obtain⟨d,hd⟩:=h n AO
  refine⟨l++[d],by simp[hl],fun i hi=>?_⟩
  by_cases hil:i<l.length
  ·rw[List.getElem_append_left hil];exact hp i hil
  ·have e:i=l.length:=by rw[List.length_append,List.length_singleton] at hi;omega
   subst e
   rw[List.getElem_append_right zn]
   simpa [hl] using hd
theorem cJ4 {α:Type} {R:(Nat→Prop)→World→List Value→α→Prop} {w:World} {T E:TypeId} {size:Nat} (hT:Tryz.prog.underlying T=some (.slice E)) (hC:Tryz.prog.cellsOf E=size) (hs:0<size) (hE:Opens R w E)
  {H:Type} {enc:TypeId × Value→H} {base:Nat} {spare:Nat→Bool} {held:Bool} {fuel:Nat} {cs:List Value} {x:DataW H × List MemPlace}
  (h:DataW.trod enc Tryz.prog w base spare held fuel T cs=some x) (hx:(x.1.weights Tryz.prog T).all (·≤reachBytes)=true) :
  ∃ A l c,cs=[.slice A l.length c]∧SL size R All w A l∧l.length*Tryz.prog.bytesOf E≤reachBytes:=by
 rcases open_slice hT h with ⟨rfl,rfl⟩|⟨a,len,cap,m,n,D,Pl,rfl,hb,hl,hm,hmm,rfl,hi⟩
 ·exact⟨none,[],0,rfl,SL.nil,by simp⟩
 ·subst hC
  simp only[DataW.weights,hT,List.all_cons,List.all_append,Bool.and_eq_true,decide_eq_true_eq,List.length_map,List.length_range] at hx
  have hlm:len≤m:=by rw[hmm];split <;> omega
  have he:∀ i,i<len→∃ d,∃ cs',(cs'.length=Tryz.prog.cellsOf E∧∀ j,j<Tryz.prog.cellsOf E→w.cell? ((a.add (i*Tryz.prog.cellsOf E)).add j)=cs'[j]?)∧R All w cs' d:=by
   intro i hil
   obtain⟨cs',hc,ht⟩:=hi i AO
   have hw:((D i).weights Tryz.prog E).all (·≤reachBytes)=true:=by
    have h2:=hx.2.1
    have hmem:∀ (l:List Nat),i ∈ l→∀ y ∈ (D i).weights Tryz.prog E,y ∈ DataW.weightsAll Tryz.prog E (l.map D):=by
     intro l
     induction l with
     | nil=>intro h;cases h
     | cons a r ih =>
      intro h y hy
      simp only[List.map_cons,DataW.weightsAll,List.mem_append]
      cases List.mem_cons.1 h with
      | inl e=>subst e;exact .inl hy
      | inr e=>exact .inr (ih e y hy)
    rw[List.all_eq_true] at h2 ⊢
    exact fun y hy=>h2 y (hmem _ (List.mem_range.2 hil) y hy)
   obtain⟨d,hd⟩:=hE H enc base spare held n cs' _ ht hw
   obtain⟨_,hcl,hat⟩:=World.cells?_some hc
   exact⟨d,cs',⟨hcl,hat⟩,hd⟩
  rcases Nat.eq_zero_or_pos len with h0|h0
  ·subst h0
   exact⟨some a,[],cap,rfl,SL.nil,by simp⟩
  ·obtain⟨b,off,sp⟩:=a
   have hsp:sp=none:=by
    obtain⟨d,cs',⟨hl',hat⟩,_⟩:=he 0 h0
    have:=hat 0 hs
    cases sp with
    | none=>rfl
    | some s =>
     have hne:cs'[0]?=some (cs'[0]'(by omega)):=List.getElem?_eq_getElem AO
     rw[hne] at this
     simp[Addr.add,World.cell?] at this
     split at this <;> simp_all
   subst hsp
   obtain⟨l,hll,hp⟩:=cS6 _ len he
   subst hll
   have hlt:b<w.heap.size:=by
    obtain⟨d,cs',⟨hl',hat⟩,_⟩:=he 0 h0
    have h1:=hat 0 hs
    have hne:cs'[0]?=some (cs'[0]'(by omega)):=List.getElem?_eq_getElem AO
    rw[hne,bC,bC] at h1
    exact World.block_lt_of_cell? w _ h1
   refine⟨some ⟨b,off,none⟩,l,cap,rfl,fun _=>⟨b,off,rfl,trivial,hlt,fun i hi=>?_⟩,?_⟩
   ·obtain⟨cs',⟨hl',hat⟩,hd⟩:=hp i hi
    refine⟨cs',hl',fun j hj=>?_,hd⟩
    rw[← hat j hj,bC,bC]
   ·exact Nat.le_trans (Nat.mul_le_mul_right _ AO) hx.1
theorem aV5 (w:World) {H:Type} {enc:TypeId × Value→H} {base:Nat} {spare:Nat→Bool} {held:Bool} {fuel:Nat} {cs:List Value} {x:DataW H × List MemPlace}
  (h:DataW.trod enc Tryz.prog w base spare held fuel 3 cs=some x):∃ n,cs=[.int .i64 n]∧-9223372036854775808≤n∧n≤9223372036854775807:=by
 obtain⟨n,rfl,_,hw⟩:=DataW.trod_int Tryz.underlying3 h
 exact⟨n,rfl,bounds_i64 hw⟩
end Go.Proofs.YtablgnacmpcfeaaGreatDoor
