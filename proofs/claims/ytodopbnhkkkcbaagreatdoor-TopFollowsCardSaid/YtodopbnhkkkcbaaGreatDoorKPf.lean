/- Pf: Proofs: words for memory; what is refused of one, by the references. Walks: ProofFault; words for proof.Check. Walk: proofs (a proof in memory of its own). Walks: proof.Check of proofs that are empty, or not in form. Walk: proof.Check of a proof with steps. proof.Check: its contract. Walk: sameProof; the law ProofChecks. The conditions of each are in its words. -/
import Derived.Test.YtodopbnhkkkcbaaGreatDoorKPath
import Derived.Test.YtodopbnhkkkcbaaGreatDoorKBase
import Derived.Test.YtodopbnhkkkcbaaGreatDoorKTrees
namespace Go.Proofs.YtodopbnhkkkcbaaGreatDoor
open Go.RowKit
set_option linter.unusedVariables false
set_option linter.unusedSimpArgs false
structure St where
 bit:Int
 right:Bool
 other:List UInt8
def StR (S:Nat→Prop) (w:World) (cs:List Value) (s:St):Prop :=
 ∃ A c,cs=[.int .i64 s.bit,.bool s.right,.slice A s.other.length c]∧Bs S w A s.other∧s.other.length≤big
theorem stR_stays:bI StR :=
 ⟨fun _ _ _ _ _ hb ⟨A,c,h0,h1,h2⟩=>⟨A,c,h0,h1.bsame hb,h2⟩,fun _ _ _ _ _ hb ⟨A,c,h0,h1,h2⟩=>⟨A,c,h0,h1.bless hb,h2⟩⟩
abbrev Sts (S:Nat→Prop) (w:World) (A:Option Addr) (l:List St):Prop:=SL 3 StR S w A l
structure Pf where
 empty:Bool
 steps:List St
 pair:Pr
theorem box3p {w:World} {g:Nat} {t:TypeId} {a b c:Value} (h:w.heap[g]?=some (.cells #[a,b,c] t (0,0))) :
  w.cell? ⟨g,0,none⟩=some a∧w.cell? ⟨g,1,none⟩=some b∧w.cell? ⟨g,2,none⟩=some c∧w.frozen? ⟨g,0,none⟩=false∧w.frozen? ⟨g,1,none⟩=false∧w.frozen? ⟨g,2,none⟩=false :=
 ⟨aA (cs:=[a,b,c]) h 0,aA (cs:=[a,b,c]) h 1,aA (cs:=[a,b,c]) h 2,aD (cs:=[a,b,c]) h 0,aD (cs:=[a,b,c]) h 1,aD (cs:=[a,b,c]) h 2⟩
theorem aF3 {w:World} {g:Nat} {t:TypeId} {a b c d:Value} (h:w.heap[g]?=some (.cells #[a,b,c,d] t (0,0))) :
  w.cell? ⟨g,0,none⟩=some a∧w.cell? ⟨g,1,none⟩=some b∧w.cell? ⟨g,2,none⟩=some c∧w.cell? ⟨g,3,none⟩=some d∧w.frozen? ⟨g,0,none⟩=false∧w.frozen? ⟨g,1,none⟩=false∧w.frozen? ⟨g,2,none⟩=false∧w.frozen? ⟨g,3,none⟩=false :=
 ⟨aA (cs:=[a,b,c,d]) h 0,aA (cs:=[a,b,c,d]) h 1,aA (cs:=[a,b,c,d]) h 2,aA (cs:=[a,b,c,d]) h 3,aD (cs:=[a,b,c,d]) h 0,aD (cs:=[a,b,c,d]) h 1,aD (cs:=[a,b,c,d]) h 2,aD (cs:=[a,b,c,d]) h 3⟩
theorem info_st:(Tryz.prog.info? 163).map (fun i=>(i.zero,i.size,i.bytes))=some (some (.agg #[.int .i64 0,.bool false,.slice none 0 0]),3,40):=by kernel_rfl
theorem cS1 (w:World) (a b:Obj):((w.alloc a).alloc b).heap[w.heap.size]?=some a∧((w.alloc a).alloc b).heap[w.heap.size+1]?=some b∧((w.alloc a).alloc b).heap.size=w.heap.size+2∧Below w.heap.size w ((w.alloc a).alloc b):=by
 refine⟨?_,?_,by simp,((Below.refl _ _).alloc zn _).alloc ZH2 _⟩
 ·rw[heap_alloc_old _ _ ZH2,heap_alloc_new]
 ·have:=heap_alloc_new (w.alloc a) b
  simpa using this
theorem cH4 {n base:Nat} {w W:World} {v:Value} {A:Option Addr} {x:St} {a:Nat} (h1:Bs (aB n) w A x.other) (g1:x.other.length≤big) (hs:aC (aB n) w W) (hb:base≤n) (hap:∀ b,aB n b→v.ownBlock≠some b) :
  StR (fun b=>aB base b∧v.ownBlock≠some b) W [.int .i64 x.bit,.bool x.right,.slice A x.other.length a] x :=
 ⟨A,a,rfl,(h1.bsame hs).bless fun b _ h=>⟨Nat.le_trans hb h,hap b h⟩,g1⟩
theorem Own.same_from3 {α:Type} {size:Nat} {R:(Nat→Prop)→World→List Value→α→Prop} {w w':World} {base:Nat} {e:TypeId} {v:Value} {l:List α} (hR:bI R) (h:Own size R (aB base) w base e v l) (hb:aC (aB base) w w'):Own size R (aB base) w' base e v l:=by
 obtain⟨xs,h1,h2⟩:=h
 refine⟨xs,⟨h1.1,?_⟩,fun i hi=>?_⟩
 ·rcases h1.2 with hn|⟨g,cap,cur,hv',hb',hh,rest⟩
  ·exact .inl hn
  ·refine .inr ⟨g,cap,cur,hv',hb',?_,rest⟩
   rw[hb.block g hb' (Array.getElem?_eq_some_iff.1 hh).1]
   exact hh
 ·have h3:=hR.less _ (fun b=>(aB base b∧v.ownBlock≠some b)∧aB base b) w _ _ (fun b hb2 hs=>⟨hs,hs.1⟩) (h2 i hi)
  have h4:=hR.same _ w w' _ _ ⟨hb.size,fun k hk hk2=>hb.block k hk.2 hk2⟩ h3
  exact hR.less _ _ _ _ _ (fun b _ hs=>hs.1) h4
end Go.Proofs.YtodopbnhkkkcbaaGreatDoor
