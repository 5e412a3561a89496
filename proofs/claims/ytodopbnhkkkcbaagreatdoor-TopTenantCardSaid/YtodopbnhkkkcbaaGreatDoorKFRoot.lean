/- FRoot: Walks: the roots of tenants, the root of a forest; the law ForestRoots. The conditions of each are in its words. -/
import Derived.Test.YtodopbnhkkkcbaaGreatDoorKRootR
import Derived.Test.YtodopbnhkkkcbaaGreatDoorKForestW
import Derived.Test.YtodopbnhkkkcbaaGreatDoorKTreeW
import Derived.Test.YtodopbnhkkkcbaaGreatDoorKForest
namespace Go.Proofs.YtodopbnhkkkcbaaGreatDoor
open Go.RowKit
set_option linter.unusedVariables false
set_option linter.unusedSimpArgs false
set_option maxRecDepth 100000
set_option maxHeartbeats 8000000
def aH9 (t:Tn):Pr:=(t.1,bK t.2)
theorem bR6 {n:List UInt8} (h:aI n=0):aE n=0∧n.length≤8:=by
 unfold aI at h
 unfold aE
 split at h
 ·exact⟨by rw[if_pos AO],AO⟩
 ·omega
theorem bR7 {l:List Tn} (h:aL l=0):aG (l.map aH9)=0:=by
 obtain⟨h1,h2,h3⟩:=(aB8 l).1 h
 refine (aE0 _).2 ⟨by rw[List.length_map];omega,fun p hp=>?_,?_⟩
 ·obtain⟨t,ht,rfl⟩:=List.mem_map.1 hp
  unfold aA5 aH9
  rw[if_neg (by have:=aR0 t.2;simp only[];omega)]
  exact (bR6 (aS5.1 (h2 t ht)).1).1
 ·have e:aP (l.map aH9)=aP l:=by simp[aP,aH9,Function.comp_def]
  rw[e]
  exact h3
def aJ6 (l:List Tn):List UInt8 × Int:=if aL l=0 then (bK (l.map aH9),0) else ([],aL l)
theorem cH6 {l:List Pr} (h:aG l=0):bF5 l=(bK l,0):=by rw[bF5,if_pos h]
def cS3 (l:List Tn):Prop:=∀ t ∈ l,aG t.2=0∧t.1.length≤big
theorem bR8 {l:List Tn} (h:aL l=0):cS3 l:=fun t ht=>by
 obtain⟨_,h2,_⟩:=(aB8 l).1 h
 have:=aS5.1 (h2 t ht)
 exact⟨this.2.2,by have:=(bR6 this.1).2;unfold big;omega⟩
theorem bA0 (w:World) (hT:bD w) (A:Option Addr) (l:List Tn) (c:Nat) (ha:Ts All w A l) (h8:l.length≤8) (hf:cS3 l) :
  Calls Tryz.prog 38 #[.slice A l.length c] w (aT3 2 aU2 w (l.map aH9)):=by
 obtain⟨i0,hi0,hy0,hy1,hy2⟩:=info_parts info_pair
 have HT:=zh hT
 have Ha:=zh ha
 have Hf:=zh hf
 clear ha hf hT
 go_enter Tryz.func38,Tryz.ntmps38
 go_wp2
 go_loopw [3,10] (fun v i wr=>∃ k:Nat,k≤l.length∧i=.int .i64 k∧Own 2 aU2 (aB w.heap.size) wr w.heap.size 44 v ((l.take k).map aH9)∧Below w.heap.size w wr) (fun _ i _=>l.length - (intOf i).toNat)
 case atStart=>exact⟨0,AO,rfl,Own.nil _ _ _,Below.refl _ _⟩
 case round =>
  obtain⟨k,hk,rfl,hown,hbel⟩:=hrel
  have Hbel:=zh hbel
  have Hown:=zh hown
  have hbz:=hbel.size
  clear hown hbel
  by_cases hlt:k<l.length
  ·have hki:(k:Int)<(l.length:Int):=by omega
   have mk:IntKind.i64.wrap ((k:Int)+1)=(k:Int)+1:=IntWalk.i64_in _ AO
   obtain⟨ab,ao,K,c1,V,d1,rfl,_,hal,hc1,hc2,hs1,hs2,hbx,hb2,hcd⟩:=aN8 (Ha.out.below tenR_stays Hbel.out) hlt
   have Hs1:=zh hs1
   have Hs2:=zh hs2
   have hfx:=(Hf.out _ (List.getElem_mem hlt)).1
   have Hrt:=zh (cH6 hfx)
   have Htr:=zh (cA4 hfx)
   have H60:=zh (aG5 hfx).1
   have Hsn:=zh (show (l.take (k+1)).map aH9=(l.take k).map aH9++[aH9 l[k]] by rw[aC8 l k hlt,List.map_append];rfl)
   have HM:=zh (show ((l.take k).map aH9).length≤8 by rw[List.length_map,List.length_take];omega)
   generalize (l.take k).map aH9=M at *
   generalize l[k]=x at *
   clear hs1 hs2 hfx
   have Hbox:=zh (show ∀ W,Below (wr.heap.size+1) (wr.alloc (.cells #[.slice K x.1.length c1,.slice V x.2.length d1] 135)) W→W.cell? ⟨wr.heap.size,0,none⟩=some (.slice K x.1.length c1)∧W.cell? ⟨wr.heap.size,1,none⟩=some (.slice V x.2.length d1)∧Below w.heap.size w W∧wr.heap.size<W.heap.size from fun W hW=>by
    obtain⟨q0,q1,_⟩:=bF ((hW.block wr.heap.size AO).trans (aK wr _ _))
    exact⟨q0,q1,(Hbel.out.alloc hbz _).trans (hW.mono AO),by have:=hW.size;simp at this;omega⟩)
   have Hkk:∀ W,Below (wr.heap.size+1) (wr.alloc (.cells #[.slice K x.1.length c1,.slice V x.2.length d1] 135)) W→Below wr.heap.size wr W:=fun W hW=>((Below.refl _ _).alloc zn _).trans (hW.mono AO)
   go_wp2_with (first
    | (go_at_call 36;(with_reducible refine (aQ3 _ ?hT V x.2 d1 ?ha hcd).mono ?_);(case hT=>(refine HT.out.below ?_;refine Hbel.out.alloc hbz _));(case ha=>(refine (Hs2.out.z pairR_stays).below pairR_stays ?_;exact BX));rw[Hrt.out];rintro e w1 ⟨B1,b1,rfl,gs1,hbw1'⟩;have hbw1:=hbw1'.mono (show wr.heap.size+1≤_ by simp);obtain⟨q0,q1,hw1,hz1⟩:=Hbox.out w1 hbw1)
    | (go_at_call 39;(with_reducible refine (aE2 _ K x.1 c1 ?ha hbx).mono ?_);(case ha=>exact (Hs1.out.bz.bbelow (show Below wr.heap.size wr w1 from ((Below.refl _ _).alloc zn _).trans (hbw1.mono AO))));rintro e w2 ⟨A2,a2,rfl,gs2,hbw2⟩;have hw2:=hw1.next hbw2 hw1.size;have hz2:=hbw2.size)
    | (at_builtin;refine aM3 pairR_stays (S:=aB w.heap.size) _ rfl _ _ _ rfl w.heap.size 44 i0 _ 2 48 Tryz.underlying41 hi0 hy0 hy1 hy2 rfl ZD9 _ M rfl ?hown _ _ [.slice A2 x.1.length a2,.slice B1 (bK x.2).length b1] rfl rfl (aE6 _ _ [.slice A2 x.1.length a2,.slice B1 (bK x.2).length b1] _ ZH2) ZE8 ?hm ?hby ?hba (x.1,bK x.2) ?hd ?_;(case hown=>exact ((Hown.out.below pairR_stays (Hkk w1 hbw1)).below pairR_stays hbw2).same pairR_stays ((aC.refl _ _).alloc _));(case hm=>(have:=HM.out;simp only[maxLen];omega));(case hby=>(have:=HM.out;omega));(case hba=>(simp;omega));(case hd=>(refine bC9 (p:=(x.1,bK x.2)) (n:=wr.heap.size) (gs2.blo AZ) ((gs1.blo AZ).bbelow hbw2) hbx (by rw[aR0];simp[big]) ((aC.refl _ _).alloc _) hbz (Hown.out.apart _ zn)));intro v1 w3 hown3 hbw3;have hw3:Below w.heap.size w w3:=(hw2.alloc AO _).trans hbw3))
   go_roundw
   case rel=>exact⟨k+1,AO,by go_num,by rw[Hsn.out];exact hown3,hw3⟩
   case measure=>simp[intOf];omega
  ·obtain rfl:k=l.length:=by omega
   have hki:¬ (l.length:Int)<(l.length:Int):=by omega
   have h:=Hown.out
   rw[List.take_length] at h
   obtain⟨A1,a1,rfl,hcap,hs⟩:=h.readc pairR_stays
   have Hcap:=zh hcap
   have Hs:=zh hs
   clear h hcap hs Hown hk hlt
   go_wp2
   go_ret
   exact⟨A1,a1,by rw[List.length_map];rfl,Hcap.out,Hs.out,Hbel.out⟩
theorem cV4 (w:World) (hT:bD w) (A:Option Addr) (l:List Tn) (c:Nat) (ha:Ps All w A (l.map aH9)) (hc:(l.map aH9).length≤c) (hf:aG (l.map aH9)=0):Calls Tryz.prog 36 #[.slice A l.length c] w (bD2 w (bK (l.map aH9),0)):=by
 have:=aQ3 w hT A (l.map aH9) c ha hc
 rw[cH6 hf,List.length_map] at this
 exact this
theorem bU1 (w:World) (hT:bD w) (A:Option Addr) (l:List Tn) (c:Nat) (ha:Ts All w A l):Calls Tryz.prog 18 #[.slice A l.length c] w (bD2 w (aJ6 l)):=by
 have HT:=zh hT
 have Ha:=zh ha
 clear ha hT
 by_cases hf:aL l=0
 ·have Hfn:=zh (bR8 hf)
  have H8:=zh ((aB8 l).1 hf).1
  have Hrf:=zh (bR7 hf)
  have Hv:=zh (show aJ6 l=(bK (l.map aH9),0) by rw[aJ6,if_pos hf])
  have Hf:=zh hf
  clear hf
  go_enter Tryz.func18,Tryz.ntmps18
  go_wp2_with (first
   | (go_at_call 37;(with_reducible refine (aD6 _ A l c Ha.out).mono ?_);rintro e1 w1 ⟨rfl,hb1⟩;rw[Hf.out])
   | (go_at_call 38;(with_reducible refine (bA0 _ ?hT A l c ?ha H8.out Hfn.out).mono ?_);(case hT=>exact HT.out.below hb1);(case ha=>exact Ha.out.below tenR_stays hb1);rintro e w2 ⟨A2,a2,rfl,hcap,hs2,hb2⟩;have hq2:=hb1.next hb2 hb1.size)
   | (go_at_call 36;(with_reducible refine (Calls.mono (cV4 _ ?hT A2 l a2 ?ha hcap Hrf.out) ?_));(case hT=>exact HT.out.below hq2);(case ha=>exact hs2.z pairR_stays);rintro e w3 ⟨A3,a3,rfl,hs3,hb3⟩))
  go_ret2
  rw[Hv.out]
  exact⟨A3,a3,rfl,hs3.blo hq2.size,hq2.next hb3 hq2.size⟩
 ·have Hv:=zh (show aJ6 l=([],aL l) by rw[aJ6,if_neg hf])
  have hb:(aL l != 0)=true:=by simpa using hf
  clear hf
  go_enter Tryz.func18,Tryz.ntmps18
  go_wp2_with ((go_at_call 37;(with_reducible refine (aD6 _ A l c Ha.out).mono ?_);rintro e1 w1 ⟨rfl,hb1⟩))
  go_ret2
  rw[Hv.out]
  exact⟨none,0,rfl,SL.nil,hb1⟩
end Go.Proofs.YtodopbnhkkkcbaaGreatDoor
