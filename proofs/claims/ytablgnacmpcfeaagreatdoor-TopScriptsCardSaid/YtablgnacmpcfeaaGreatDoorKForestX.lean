/- ForestX: Walk: written of the references. Walks: forest.Apply, Applied; tenants held against each other. The law ForestApplies: its walk. The conditions of each are in its words. -/
import Derived.Test.YtablgnacmpcfeaaGreatDoorKForestW
import Derived.Test.YtablgnacmpcfeaaGreatDoorKForest
import Derived.Test.YtablgnacmpcfeaaGreatDoorKTreeW
namespace Go.Proofs.YtablgnacmpcfeaaGreatDoor
open Go.RowKit
set_option linter.unusedVariables false
set_option linter.unusedSimpArgs false
set_option maxRecDepth 100000
set_option maxHeartbeats 8000000
def RetTE (w:World) (r:List Tn × Int) (e:Ending) (w':World):Prop :=
 ∃ A c,e=.returned (.tuple #[.slice A r.1.length c,.int .i64 r.2])∧r.1.length≤c∧Ts (aB w.heap.size) w' A r.1∧Below w.heap.size w w'
theorem Own.low {α:Type} {size:Nat} {R:(Nat→Prop)→World→List Value→α→Prop} {S:Nat→Prop} {w:World} {base:Nat} {e:TypeId} {v:Value} {l:List α} (h:Own size R S w base e v l):∀ b,v.ownBlock=some b→base≤b:=by
 obtain⟨xs,h1,_⟩:=h
 exact fun b hb=>(h1.lt b hb).1
def applyAll:List Wr→List Tn→List Tn × Int
 | [],l=>(l,0)
 | x :: xs,l=>if (aC6 l x).2≠0 then ([],(aC6 l x).2) else applyAll xs (aC6 l x).1
def aC4 (l:List Tn) (ws:List Wr):List Tn × Int:=if aL l≠0 then ([],aL l) else if 10<ws.length then ([],1) else applyAll ws l
theorem applyAll_fine:∀ (ws:List Wr) (l:List Tn),aN0 l→aN0 (applyAll ws l).1
 | [],_,h=>h
 | x :: xs,l,h=>by
  unfold applyAll
  by_cases h1:(aC6 l x).2=0
  ·rw[if_neg ZE3]
   exact applyAll_fine xs _ (bI5 h h1)
  ·rw[if_pos h1]
   rfl
theorem bT3 (l:List Tn) (ws:List Wr):aN0 (aC4 l ws).1:=by
 unfold aC4
 by_cases h:aL l=0
 ·rw[if_neg ZF9]
  split
  ·rfl
  ·exact applyAll_fine ws l h
 ·rw[if_pos h]
  rfl
theorem aN0.len {l:List Tn} (h:aN0 l):l.length≤8:=((aB8 l).1 h).1
theorem bZ4 {ws:List Wr} {l:List Tn} {k:Nat} (hk:k<ws.length) (h:(aC6 l ws[k]).2≠0):applyAll (ws.drop k) l=([],(aC6 l ws[k]).2):=by
 rw[List.drop_eq_getElem_cons hk]
 unfold applyAll
 rw[if_pos h]
theorem bT4 {ws:List Wr} {l:List Tn} {k:Nat} (hk:k<ws.length) (h:(aC6 l ws[k]).2=0):applyAll (ws.drop k) l=applyAll (ws.drop (k+1)) (aC6 l ws[k]).1:=by
 rw[List.drop_eq_getElem_cons hk]
 conv=>lhs;unfold applyAll
 rw[if_neg ZF9]
theorem aJ0 (w:World) (A:Option Addr) (l:List Tn) (c:Nat) (B:Option Addr) (ws:List Wr) (d:Nat) (ha:Ts All w A l) (hw:Ws All w B ws) :
  Calls Tryz.prog 30 #[.slice A l.length c,.slice B ws.length d] w (RetTE w (aC4 l ws)):=by
 have Ha:=zh ha
 have Hw:=zh hw
 clear ha hw
 by_cases h1:aL l=0
 ·have b1:(aL l != 0)=false:=by simp[h1]
  have Hfine:=zh (show aN0 l from h1)
  have hl8:=(show aN0 l from h1).len
  by_cases h2:10<ws.length
  ·have Hv:=zh (show aC4 l ws=([],1) by unfold aC4;rw[if_neg ZE3,if_pos h2])
   clear h1
   go_enter Tryz.func30,Tryz.ntmps30
   go_wp2_with (go_at_call 60;refine (aD6 _ A l c Ha.out).mono ?_;rintro e w1 ⟨rfl,hb1⟩)
   go_ret2
   rw[Hv.out]
   exact⟨none,0,rfl,zn,SL.nil,hb1⟩
  ·have Hv:=zh (show aC4 l ws=applyAll ws l by unfold aC4;rw[if_neg ZE3,if_neg h2])
   have b2:decide ((10:Int)<(ws.length:Int))=false:=by rw[decide_eq_false_iff_not];omega
   clear h1
   go_enter Tryz.func30,Tryz.ntmps30
   go_wp2_with (go_at_call 60;refine (aD6 _ A l c Ha.out).mono ?_;rintro e w1 ⟨rfl,hb1⟩)
   have Hb1:=zh hb1
   have hz1:=hb1.size
   clear hb1 b1
   refine (bT0 _ A l c (Ha.out.below tenR_stays Hb1.out) AO).mono ?_
   rintro e w2 ⟨v2,rfl,hown2,hb2⟩
   have Hown2:=zh hown2
   have Hb2:=zh hb2
   clear hown2 hb2
   go_wp2_with fail
   clear b2
   go_loopw [7,24] (fun v i wr=>∃ (k:Nat) (cur:List Tn),k≤ws.length∧i=.int .i64 k∧applyAll (ws.drop k) cur=applyAll ws l∧aN0 cur∧Own 2 bK4 (aB w1.heap.size) wr w1.heap.size 165 v cur∧Below w1.heap.size w1 wr) (fun _ i _=>ws.length - (intOf i).toNat)
   case atStart=>exact⟨0,l,AO,rfl,rfl,Hfine.out,Hown2.out,Hb2.out⟩
   case round =>
    obtain⟨k,cur,hk,rfl,hval,hfc,hown,hbel⟩:=hrel
    have Hval:=zh hval
    have Hfc:=zh hfc
    have Hown:=zh hown
    have Hbel:=zh hbel
    have hbz:=hbel.size
    have Hb0:=zh (Hb1.out.next hbel hz1)
    clear hval hfc hown hbel
    by_cases hlt:k<ws.length
    ·obtain⟨g,off,A1,a1,B1,b1,C1,c1,rfl,_,hal,hc1,hc2,hc3,hc4,hs1,hs2,hs3,hb1,hb2,hb3⟩:=aF4 (Hw.out.below wrR_stays Hb0.out) hlt
     by_cases he:(aC6 cur ws[k]).2=0
     ·have Hnext:=zh (bT4 hlt he)
      have Hfn:=zh (bI5 Hfc.out he)
      have c1':((aC6 cur ws[k]).2 != 0)=false:=by simp[he]
      have He:=zh he
      generalize ws[k]=x at *
      clear he
      go_wp2_with (go_at_call 62;refine (aY6 _ w1.heap.size _ cur A1 B1 C1 x a1 b1 c1 (Hown.out.below tenR_stays ((Below.refl _ _).alloc zn _)) ZC8 Hfc.out (hs1.bz.bbelow ((Below.refl _ _).alloc zn _)) (hs2.bz.bbelow ((Below.refl _ _).alloc zn _)) (hs3.bz.bbelow ((Below.refl _ _).alloc zn _)) hb1).mono ?_;rintro e w3 ⟨v3,rfl,hown3,hb4⟩;have Hown3:=zh (hown3 He.out);clear hown3)
      go_roundw
      case rel=>exact⟨k+1,_,AO,by go_num,by rw[← Hval.out,Hnext.out],Hfn.out,Hown3.out,(Hbel.out.alloc AO _).trans hb4⟩
      case measure=>simp[intOf];omega
     ·have Hbad:=zh (bZ4 hlt he)
      have c1':((aC6 cur ws[k]).2 != 0)=true:=by simpa using he
      generalize ws[k]=x at *
      clear he
      go_wp2_with (go_at_call 62;refine (aY6 _ w1.heap.size _ cur A1 B1 C1 x a1 b1 c1 (Hown.out.below tenR_stays ((Below.refl _ _).alloc zn _)) ZC8 Hfc.out (hs1.bz.bbelow ((Below.refl _ _).alloc zn _)) (hs2.bz.bbelow ((Below.refl _ _).alloc zn _)) (hs3.bz.bbelow ((Below.refl _ _).alloc zn _)) hb1).mono ?_;rintro e w3 ⟨v3,rfl,hown3,hb4⟩;clear hown3)
      go_ret2
      rw[Hv.out,← Hval.out,Hbad.out]
      exact⟨none,0,rfl,zn,SL.nil,(Hb0.out.alloc AO _).trans (hb4.mono hz1)⟩
    ·obtain rfl:k=ws.length:=by omega
     have Hfin:=zh (show applyAll ws l=(cur,0) by rw[← Hval.out,List.drop_length];rfl)
     obtain⟨A5,c5,rfl,hcc,hsl⟩:=Hown.out.readc tenR_stays
     have Hcc:=zh hcc
     have Hsl:=zh hsl
     clear hcc hsl
     go_wp2
     go_ret2
     rw[Hv.out,Hfin.out]
     exact⟨A5,c5,rfl,Hcc.out,Hsl.out.lo tenR_stays hz1,Hb0.out⟩
 ·have b1:(aL l != 0)=true:=by simpa using h1
  have Hv:=zh (show aC4 l ws=([],aL l) by unfold aC4;rw[if_pos h1])
  clear h1
  go_enter Tryz.func30,Tryz.ntmps30
  go_wp2_with (go_at_call 60;refine (aD6 _ A l c Ha.out).mono ?_;rintro e w1 ⟨rfl,hb1⟩)
  go_ret2
  rw[Hv.out]
  exact⟨none,0,rfl,zn,SL.nil,hb1⟩
end Go.Proofs.YtablgnacmpcfeaaGreatDoor
