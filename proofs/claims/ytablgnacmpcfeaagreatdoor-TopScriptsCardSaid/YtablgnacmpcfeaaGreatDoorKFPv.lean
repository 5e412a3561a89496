/- FPv: Walks: forest.Prove and ForestProof; the law ForestProves. The conditions of each are in its words. -/
import Derived.Test.YtablgnacmpcfeaaGreatDoorKPv
import Derived.Test.YtablgnacmpcfeaaGreatDoorKRootR
namespace Go.Proofs.YtablgnacmpcfeaaGreatDoor
open Go.RowKit
set_option linter.unusedVariables false
set_option linter.unusedSimpArgs false
set_option maxRecDepth 100000
set_option maxHeartbeats 8000000
def fpS (l:List Tn) (n k:List UInt8):(Pf × Pf) × Int :=
 if aD4 l n≠0 then ((pf0,pf0),aD4 l n) else if aE k≠0 then ((pf0,pf0),aE k) else (((aH2 (l.map aH9) n).1,(aH2 (aJ l n) k).1),0)
def RetPf2 (w:World) (r:(Pf × Pf) × Int) (e:Ending) (w':World):Prop :=
 ∃ A n K a V b A' n' K' a' V' b',e=.returned (.tuple #[.agg #[.bool r.1.1.empty,.slice A r.1.1.steps.length n,.slice K r.1.1.pair.1.length a,.slice V r.1.1.pair.2.length b],.agg #[.bool r.1.2.empty,.slice A' r.1.2.steps.length n',.slice K' r.1.2.pair.1.length a',.slice V' r.1.2.pair.2.length b'],.int .i64 r.2]) ∧
  (Sts (aB w.heap.size) w' A r.1.1.steps∧Bs (aB w.heap.size) w' K r.1.1.pair.1∧Bs (aB w.heap.size) w' V r.1.1.pair.2)∧(Sts (aB w.heap.size) w' A' r.1.2.steps∧Bs (aB w.heap.size) w' K' r.1.2.pair.1∧Bs (aB w.heap.size) w' V' r.1.2.pair.2)∧Below w.heap.size w w'
theorem bX6 (w:World):w.drew.heap=w.heap:=rfl
theorem pk_of {l:List Pr} {k:List UInt8} (h:aG l=0):aD3 l k=aE k:=by unfold aD3;rw[if_neg ZF9]
theorem bE0 (l:List Pr) (k:List UInt8):(aH2 l k).2=aD3 l k:=by
 unfold aH2
 split
 ·rfl
 ·rename_i h
  rw[Decidable.not_not] at h
  split <;> exact h.symm
theorem cN5 {l:List Tn} {n:List UInt8} (h:aL l=0) (hn:aI n=0):(aH2 (l.map aH9) n).2=0:=by
 rw[bE0,pk_of (bR7 h)]
 exact (bR6 hn).1
theorem cV5 {l:List Tn} {n k:List UInt8} (h:aL l=0):(aH2 (aJ l n) k).2=aE k:=by
 rw[bE0,pk_of (aN0.old h n)]
theorem cN6 {l:List Pr} {k:List UInt8} (h:(aH2 l k).2≠0):(aH2 l k).1=pf0:=by
 rw[bE0] at h
 unfold aH2
 rw[if_pos h]
theorem bU2 (w:World) (hT:bD w) (A:Option Addr) (l:List Tn) (c:Nat) (K:Option Addr) (k:List UInt8) (kc:Nat) (ha:Ps All w A (l.map aH9)) (hk:Bs All w K k) (hc:(l.map aH9).length≤c) :
  Calls Tryz.prog 227 #[.slice A l.length c,.slice K k.length kc] w (RetPfE w (aH2 (l.map aH9) k)):=by
 have:=bR5 w hT A (l.map aH9) c K k kc ha hk hc
 rw[List.length_map] at this
 exact this
theorem bR9 (w:World) (hT:bD w) (A:Option Addr) (l:List Tn) (c:Nat) (N:Option Addr) (n:List UInt8) (nc:Nat) (K:Option Addr) (k:List UInt8) (kc:Nat) (ha:Ts All w A l) (hn:Bs All w N n) (hk:Bs All w K k) :
  Calls Tryz.prog 173 #[.slice A l.length c,.slice N n.length nc,.slice K k.length kc] w (RetPf2 w (fpS l n k)):=by
 have HT:=zh hT
 have Ha:=zh ha
 have Hn:=zh hn
 have Hk:=zh hk
 clear hT ha hn hk
 have Hz0:=zh (show ((w.alloc (.cells #[.bool false,.slice none 0 0,.slice none 0 0,.slice none 0 0] 55)).alloc (.cells #[.bool false,.slice none 0 0,.slice none 0 0,.slice none 0 0] 55)).heap[w.heap.size]?=some (.cells #[.bool false,.slice none 0 0,.slice none 0 0,.slice none 0 0] 55 (0,0))∧((w.alloc (.cells #[.bool false,.slice none 0 0,.slice none 0 0,.slice none 0 0] 55)).alloc (.cells #[.bool false,.slice none 0 0,.slice none 0 0,.slice none 0 0] 55)).heap[w.heap.size+1]?=some (.cells #[.bool false,.slice none 0 0,.slice none 0 0,.slice none 0 0] 55 (0,0)) from ⟨(cS1 w _ _).1,(cS1 w _ _).2.1⟩)
 obtain⟨ff,hff⟩:∃ ff,aD4 l n=ff:=⟨_,rfl⟩
 have Hf:=zh hff
 by_cases hz:ff=0
 ·subst hz
  obtain⟨hfl,hfn⟩:=bZ0 hff
  have Hfl:=zh hfl
  have H8:=zh ((aB8 l).1 hfl).1
  have Hrise:=zh ((aB8 l).1 hfl).2.2
  have Hpn:=zh (cN5 hfl hfn)
  have Hpk:=zh (cV5 (n:=n) (k:=k) hfl)
  obtain⟨q,qe,hq⟩:∃ q qe,aH2 (aJ l n) k=(q,qe):=⟨_,_,rfl⟩
  obtain⟨p,pe,hp⟩:∃ p pe,aH2 (l.map aH9) n=(p,pe):=⟨_,_,rfl⟩
  have Hq:=zh hq
  have Hp:=zh hp
  have hqe:=Hpk.out
  rw[hq] at hqe
  have hpe:=Hpn.out
  rw[hp] at hpe
  simp only[] at hqe hpe
  subst hpe
  have Hqe:=zh hqe
  by_cases hk:qe=0
  ·subst hk
   have Hv:=zh (show fpS l n k=((p,q),0) by unfold fpS;rw[if_neg (by rw[hff];simp),if_neg (by simp[← hqe]),hq,hp])
   have H7x:=zh (fun (W:World) (B Q V:Option Addr) (b qc v:Nat)=>show ((((W.setCell ⟨w.heap.size+1,0,none⟩ (.bool q.empty)).setCell ⟨w.heap.size+1,1,none⟩ (.slice B q.steps.length b)).setCell ⟨w.heap.size+1,2,none⟩ (.slice Q q.pair.1.length qc)).setCell ⟨w.heap.size+1,3,none⟩ (.slice V q.pair.2.length v)).heap[w.heap.size]?=W.heap[w.heap.size]? from by rw[Below.heap_setCell _ _ _ _ ZC5,Below.heap_setCell _ _ _ _ ZC5,Below.heap_setCell _ _ _ _ ZC5,Below.heap_setCell _ _ _ _ ZC5])
   have H7y:=zh (fun (W:World) (B Q V:Option Addr) (b qc v:Nat) (h:W.heap[w.heap.size+1]?=some (.cells #[.bool false,.slice none 0 0,.slice none 0 0,.slice none 0 0] 55 (0,0)))=>show ((((W.setCell ⟨w.heap.size+1,0,none⟩ (.bool q.empty)).setCell ⟨w.heap.size+1,1,none⟩ (.slice B q.steps.length b)).setCell ⟨w.heap.size+1,2,none⟩ (.slice Q q.pair.1.length qc)).setCell ⟨w.heap.size+1,3,none⟩ (.slice V q.pair.2.length v)).heap[w.heap.size+1]?=some (.cells #[.bool q.empty,.slice B q.steps.length b,.slice Q q.pair.1.length qc,.slice V q.pair.2.length v] 55 (0,0)) from by rw[heap_setCell_same _ _ _ _ _ _ (heap_setCell_same _ _ _ _ _ _ (heap_setCell_same _ _ _ _ _ _ (heap_setCell_same _ _ _ _ _ _ h)))];rfl)
   clear hff hfl hfn hq hp hqe
   go_enter Tryz.func173,Tryz.ntmps173
   go_wp2_with (first
    | (go_at_call 51;(with_reducible refine (aE5 _ A l c N n nc ?h1).mono ?_);(case h1=>(refine Ha.out.below tenR_stays ?_;exact BX));rw[Hf.out];rintro e1 w1 ⟨rfl,hb1⟩;have hq1:Below w.heap.size w w1:=(Below.next BX hb1 ZC8);have hx1:=(hb1.block w.heap.size ZC8).trans Hz0.out.1;have hy1:=(hb1.block (w.heap.size+1) ZH2).trans Hz0.out.2;have hlt0:w.heap.size<w1.heap.size:=(Array.getElem?_eq_some_iff.1 hx1).1;have hlt1:w.heap.size+1<w1.heap.size:=(Array.getElem?_eq_some_iff.1 hy1).1;obtain⟨r0,r1,r2,r3,r4,r5,r6,r7⟩:=aF3 hx1;obtain⟨s0,s1,s2,s3,s4,s5,s6,s7⟩:=aF3 hy1)
    | (go_at_call 53;(with_reducible refine (aM4 _ A l c N n nc ?g1 ?g2 ?g3 Hrise.out).mono ?_);(case g1=>exact Ha.out.below tenR_stays hq1);(case g2=>exact Hn.out.bbelow hq1);(case g3=>(have:=H8.out;omega));rintro e2 w2 ⟨P,pc,rfl,hsP,_,hcP,hb2⟩;have hq2:=hq1.next hb2 hq1.size)
    | (go_at_call 227;(with_reducible refine (bR5 _ ?t1 P (aJ l n) pc K k kc hsP ?t2 hcP).mono ?_);(case t1=>exact HT.out.below hq2);(case t2=>exact Hk.out.bbelow hq2);rw[Hq.out];rintro e3 w3 ⟨B,b,Q,qc,V,v,rfl,hi1,hi2,hi3,hb3⟩;have hq3:=hq2.next hb3 hq2.size;have hb13:=(hb2.mono zn).next hb3 hb2.size;have hx3:=(hb13.block w.heap.size hlt0).trans hx1;have hy3:=(hb13.block (w.heap.size+1) hlt1).trans hy1;have hl30:w.heap.size<w3.heap.size:=(Array.getElem?_eq_some_iff.1 hx3).1;have hl31:w.heap.size+1<w3.heap.size:=(Array.getElem?_eq_some_iff.1 hy3).1;obtain⟨u0,u1,u2,u3,u4,u5,u6,u7⟩:=aF3 hy3;obtain⟨v0,v1,v2,v3,v4,v5,v6,v7⟩:=aF3 hx3)
    | (go_at_call 226;(with_reducible refine (bA0 _ ?t1 A l c ?t2 H8.out (bR8 Hfl.out)).mono ?_);(case t1=>exact HT.out.below ((((hq3.setCell ZC5 _).setCell ZC5 _).setCell ZC5 _).setCell ZC5 _));(case t2=>exact Ha.out.below tenR_stays ((((hq3.setCell ZC5 _).setCell ZC5 _).setCell ZC5 _).setCell ZC5 _));rintro e4 w4 ⟨C,cc,rfl,hcC,hsC,hb4⟩;have hq4:Below w.heap.size w w4:=Below.next ((((hq3.setCell ZC5 _).setCell ZC5 _).setCell ZC5 _).setCell ZC5 _) hb4 (by simpa using hq3.size);have hz12:=hb2.size;have hz23:=hb3.size;have hz34:w3.heap.size≤w4.heap.size:=(by simpa using hb4.size))
    | (go_at_call 227;(with_reducible refine (bU2 _ ?t1 C l cc N n nc ?t2 ?t3 hcC).mono ?_);(case t1=>exact HT.out.below hq4);(case t2=>exact hsC.z pairR_stays);(case t3=>exact Hn.out.bbelow hq4);rw[Hp.out];rintro e5 w5 ⟨D,d,E,ec,U,u,rfl,ho1,ho2,ho3,hb5⟩;have hq5:=hq4.next hb5 hq4.size;have hb35:Below w3.heap.size ((((w3.setCell ⟨w.heap.size+1,0,none⟩ (.bool q.empty)).setCell ⟨w.heap.size+1,1,none⟩ (.slice B q.steps.length b)).setCell ⟨w.heap.size+1,2,none⟩ (.slice Q q.pair.1.length qc)).setCell ⟨w.heap.size+1,3,none⟩ (.slice V q.pair.2.length v)) w5:=(by have h1:=hb4;have h2:=hb5;exact (h1.mono ZH2).next h2 (by have:=hb4.size;simp at this;omega));have hx5:=(hb35.block w.heap.size hl30).trans ((H7x.out w3 B Q V b qc v).trans hx3);have hy5:=(hb35.block (w.heap.size+1) hl31).trans (H7y.out w3 B Q V b qc v hy3);obtain⟨u0,u1,u2,u3,u4,u5,u6,u7⟩:=aF3 hy5;obtain⟨v0,v1,v2,v3,v4,v5,v6,v7⟩:=aF3 hx5;have hl50:w.heap.size<w5.heap.size:=(Array.getElem?_eq_some_iff.1 hx5).1;have hl51:w.heap.size+1<w5.heap.size:=(Array.getElem?_eq_some_iff.1 hy5).1))
   obtain⟨w6,hw6⟩:∃ w6,((((w5.setCell ⟨w.heap.size,0,none⟩ (.bool p.empty)).setCell ⟨w.heap.size,1,none⟩ (.slice D p.steps.length d)).setCell ⟨w.heap.size,2,none⟩ (.slice E p.pair.1.length ec)).setCell ⟨w.heap.size,3,none⟩ (.slice U p.pair.2.length u))=w6:=⟨_,rfl⟩
   have x6:w6.heap[w.heap.size]?=some (.cells #[.bool p.empty,.slice D p.steps.length d,.slice E p.pair.1.length ec,.slice U p.pair.2.length u] 55 (0,0)):=by
    rw[← hw6,heap_setCell_same _ _ _ _ _ _ (heap_setCell_same _ _ _ _ _ _ (heap_setCell_same _ _ _ _ _ _ (heap_setCell_same _ _ _ _ _ _ hx5)))]
    rfl
   have y6:w6.heap[w.heap.size+1]?=some (.cells #[.bool q.empty,.slice B q.steps.length b,.slice Q q.pair.1.length qc,.slice V q.pair.2.length v] 55 (0,0)):=by
    rw[← hw6,Below.heap_setCell _ _ _ _ ZC5,Below.heap_setCell _ _ _ _ ZC5,Below.heap_setCell _ _ _ _ ZC5,Below.heap_setCell _ _ _ _ ZC5]
    exact hy5
   have hb6:Below w.heap.size w w6:=by rw[← hw6];exact ((((hq5.setCell ZC5 _).setCell ZC5 _).setCell ZC5 _).setCell ZC5 _)
   have hSi:aC (aB w2.heap.size) w3 w6:=by rw[← hw6];exact (((((((((((aC.refl _ _).setCell ZC4 _).setCell ZC4 _).setCell ZC4 _).setCell ZC4 _).trans (aC.of_below hb4)).trans (aC.of_below hb5)).setCell ZC4 _).setCell ZC4 _).setCell ZC4 _).setCell ZC4 _)
   have hSo:aC (aB w4.heap.size) w5 w6:=by rw[← hw6];exact (((((aC.refl _ _).setCell ZC4 _).setCell ZC4 _).setCell ZC4 _).setCell ZC4 _)
   rw[hw6]
   clear hw6 u0 u1 u2 u3 u4 u5 u6 u7 v0 v1 v2 v3 v4 v5 v6 v7 r0 r1 r2 r3 r4 r5 r6 r7 s0 s1 s2 s3 s4 s5 s6 s7
   obtain⟨m0,m1,m2,m3,m4,m5,m6,m7⟩:=aF3 x6
   obtain⟨o0,o1,o2,o3,o4,o5,o6,o7⟩:=aF3 y6
   have hz60:w.heap.size<w6.heap.size:=(Array.getElem?_eq_some_iff.1 x6).1
   have hz61:w.heap.size+1<w6.heap.size:=(Array.getElem?_eq_some_iff.1 y6).1
   go_region
   all_goals go_wp2
   obtain⟨w7,hw7⟩:∃ w7,((((((((w6.setCell ⟨w.heap.size,0,none⟩ (.bool p.empty)).setCell ⟨w.heap.size,1,none⟩ (.slice D p.steps.length d)).setCell ⟨w.heap.size,2,none⟩ (.slice E p.pair.1.length ec)).setCell ⟨w.heap.size,3,none⟩ (.slice U p.pair.2.length u)).setCell ⟨w.heap.size+1,0,none⟩ (.bool q.empty)).setCell ⟨w.heap.size+1,1,none⟩ (.slice B q.steps.length b)).setCell ⟨w.heap.size+1,2,none⟩ (.slice Q q.pair.1.length qc)).setCell ⟨w.heap.size+1,3,none⟩ (.slice V q.pair.2.length v)).drew=w7:=⟨_,rfl⟩
   have x7:w7.heap[w.heap.size]?=some (.cells #[.bool p.empty,.slice D p.steps.length d,.slice E p.pair.1.length ec,.slice U p.pair.2.length u] 55 (0,0)):=by
    rw[← hw7,bX6,Below.heap_setCell _ _ _ _ ZC5,Below.heap_setCell _ _ _ _ ZC5,Below.heap_setCell _ _ _ _ ZC5,Below.heap_setCell _ _ _ _ ZC5,heap_setCell_same _ _ _ _ _ _ (heap_setCell_same _ _ _ _ _ _ (heap_setCell_same _ _ _ _ _ _ (heap_setCell_same _ _ _ _ _ _ x6)))]
    rfl
   have y7:w7.heap[w.heap.size+1]?=some (.cells #[.bool q.empty,.slice B q.steps.length b,.slice Q q.pair.1.length qc,.slice V q.pair.2.length v] 55 (0,0)):=by
    rw[← hw7,bX6,heap_setCell_same _ _ _ _ _ _ (heap_setCell_same _ _ _ _ _ _ (heap_setCell_same _ _ _ _ _ _ (heap_setCell_same _ _ _ _ _ _ ((Below.heap_setCell _ _ _ _ ZC5).trans ((Below.heap_setCell _ _ _ _ ZC5).trans ((Below.heap_setCell _ _ _ _ ZC5).trans ((Below.heap_setCell _ _ _ _ ZC5).trans y6)))))))]
    rfl
   have hb7:Below w.heap.size w w7:=by rw[← hw7];exact ((((((((hb6.setCell ZC5 _).setCell ZC5 _).setCell ZC5 _).setCell ZC5 _).setCell ZC5 _).setCell ZC5 _).setCell ZC5 _).setCell ZC5 _).drew
   have hSi7:aC (aB w2.heap.size) w3 w7:=by rw[← hw7];exact ((((((((hSi.setCell ZC4 _).setCell ZC4 _).setCell ZC4 _).setCell ZC4 _).setCell ZC4 _).setCell ZC4 _).setCell ZC4 _).setCell ZC4 _).drew
   have hSo7:aC (aB w4.heap.size) w5 w7:=by rw[← hw7];exact ((((((((hSo.setCell ZC4 _).setCell ZC4 _).setCell ZC4 _).setCell ZC4 _).setCell ZC4 _).setCell ZC4 _).setCell ZC4 _).setCell ZC4 _).drew
   rw[hw7]
   obtain⟨e0,e1,e2,e3,_⟩:=aF3 x7
   obtain⟨f0,f1,f2,f3,_⟩:=aF3 y7
   refine bodyPost_ret (v:=.tuple #[.agg #[.bool p.empty,.slice D p.steps.length d,.slice E p.pair.1.length ec,.slice U p.pair.2.length u],.agg #[.bool q.empty,.slice B q.steps.length b,.slice Q q.pair.1.length qc,.slice V q.pair.2.length v],.int .i64 0]) (by simp[results,Tryz.results173,go_sem,e0,e1,e2,e3,f0,f1,f2,f3]) rfl ?_
   rw[Hv.out]
   exact⟨D,d,E,ec,U,u,B,b,Q,qc,V,v,rfl,⟨(ho1.same stR_stays hSo7).lo stR_stays hq4.size,(ho2.bsame hSo7).blo hq4.size,(ho3.bsame hSo7).blo hq4.size⟩,⟨(hi1.same stR_stays hSi7).lo stR_stays hq2.size,(hi2.bsame hSi7).blo hq2.size,(hi3.bsame hSi7).blo hq2.size⟩,hb7⟩
  ·have Hv:=zh (show fpS l n k=((pf0,pf0),qe) by unfold fpS;rw[if_neg (by rw[hff];simp),if_pos (by rw[← hqe];exact hk),← hqe])
   have hbq:(qe != 0)=true:=by simpa using hk
   have Hq0:=zh (show q=pf0 by have h1:(aH2 (aJ l n) k).2≠0:=(by rw[hq];exact hk);have h2:=cN6 h1;rw[hq] at h2;exact h2)
   have H7x:=zh (fun (W:World) (B Q V:Option Addr) (b qc v:Nat)=>show ((((W.setCell ⟨w.heap.size+1,0,none⟩ (.bool q.empty)).setCell ⟨w.heap.size+1,1,none⟩ (.slice B q.steps.length b)).setCell ⟨w.heap.size+1,2,none⟩ (.slice Q q.pair.1.length qc)).setCell ⟨w.heap.size+1,3,none⟩ (.slice V q.pair.2.length v)).heap[w.heap.size]?=W.heap[w.heap.size]? from by rw[Below.heap_setCell _ _ _ _ ZC5,Below.heap_setCell _ _ _ _ ZC5,Below.heap_setCell _ _ _ _ ZC5,Below.heap_setCell _ _ _ _ ZC5])
   clear hff hfl hfn hq hp hqe hk
   go_enter Tryz.func173,Tryz.ntmps173
   go_wp2_with (first
    | (go_at_call 51;(with_reducible refine (aE5 _ A l c N n nc ?h1).mono ?_);(case h1=>(refine Ha.out.below tenR_stays ?_;exact BX));rw[Hf.out];rintro e1 w1 ⟨rfl,hb1⟩;have hq1:Below w.heap.size w w1:=(Below.next BX hb1 ZC8);have hx1:=(hb1.block w.heap.size ZC8).trans Hz0.out.1;have hy1:=(hb1.block (w.heap.size+1) ZH2).trans Hz0.out.2;have hlt0:w.heap.size<w1.heap.size:=(Array.getElem?_eq_some_iff.1 hx1).1;have hlt1:w.heap.size+1<w1.heap.size:=(Array.getElem?_eq_some_iff.1 hy1).1;obtain⟨r0,r1,r2,r3,r4,r5,r6,r7⟩:=aF3 hx1;obtain⟨s0,s1,s2,s3,s4,s5,s6,s7⟩:=aF3 hy1)
    | (go_at_call 53;(with_reducible refine (aM4 _ A l c N n nc ?g1 ?g2 ?g3 Hrise.out).mono ?_);(case g1=>exact Ha.out.below tenR_stays hq1);(case g2=>exact Hn.out.bbelow hq1);(case g3=>(have:=H8.out;omega));rintro e2 w2 ⟨P,pc,rfl,hsP,_,hcP,hb2⟩;have hq2:=hq1.next hb2 hq1.size)
    | (go_at_call 227;(with_reducible refine (bR5 _ ?t1 P (aJ l n) pc K k kc hsP ?t2 hcP).mono ?_);(case t1=>exact HT.out.below hq2);(case t2=>exact Hk.out.bbelow hq2);rw[Hq.out];rintro e3 w3 ⟨B,b,Q,qc,V,v,rfl,hi1,hi2,hi3,hb3⟩;have hq3:=hq2.next hb3 hq2.size;have hb13:=(hb2.mono zn).next hb3 hb2.size;have hx3:=(hb13.block w.heap.size hlt0).trans hx1;have hy3:=(hb13.block (w.heap.size+1) hlt1).trans hy1;have hl30:w.heap.size<w3.heap.size:=(Array.getElem?_eq_some_iff.1 hx3).1;have hl31:w.heap.size+1<w3.heap.size:=(Array.getElem?_eq_some_iff.1 hy3).1;obtain⟨u0,u1,u2,u3,u4,u5,u6,u7⟩:=aF3 hy3;obtain⟨v0,v1,v2,v3,v4,v5,v6,v7⟩:=aF3 hx3))
   obtain⟨w4,hw4⟩:∃ w4,((((w3.setCell ⟨w.heap.size+1,0,none⟩ (.bool q.empty)).setCell ⟨w.heap.size+1,1,none⟩ (.slice B q.steps.length b)).setCell ⟨w.heap.size+1,2,none⟩ (.slice Q q.pair.1.length qc)).setCell ⟨w.heap.size+1,3,none⟩ (.slice V q.pair.2.length v))=w4:=⟨_,rfl⟩
   have hx4:w4.heap[w.heap.size]?=some (.cells #[.bool false,.slice none 0 0,.slice none 0 0,.slice none 0 0] 55 (0,0)):=by rw[← hw4];exact (H7x.out w3 B Q V b qc v).trans hx3
   have hy4:w4.heap[w.heap.size+1]?=some (.cells #[.bool q.empty,.slice B q.steps.length b,.slice Q q.pair.1.length qc,.slice V q.pair.2.length v] 55 (0,0)):=by
    rw[← hw4,heap_setCell_same _ _ _ _ _ _ (heap_setCell_same _ _ _ _ _ _ (heap_setCell_same _ _ _ _ _ _ (heap_setCell_same _ _ _ _ _ _ hy3)))]
    rfl
   have hq4:Below w.heap.size w w4:=by rw[← hw4];exact ((((hq3.setCell ZC5 _).setCell ZC5 _).setCell ZC5 _).setCell ZC5 _)
   rw[hw4]
   clear hw4
   obtain⟨w9,hw9⟩:∃ w9,((((((((w4.setCell ⟨w.heap.size,0,none⟩ (.bool false)).setCell ⟨w.heap.size,1,none⟩ (.slice none 0 0)).setCell ⟨w.heap.size,2,none⟩ (.slice none 0 0)).setCell ⟨w.heap.size,3,none⟩ (.slice none 0 0)).setCell ⟨w.heap.size+1,0,none⟩ (.bool false)).setCell ⟨w.heap.size+1,1,none⟩ (.slice none 0 0)).setCell ⟨w.heap.size+1,2,none⟩ (.slice none 0 0)).setCell ⟨w.heap.size+1,3,none⟩ (.slice none 0 0))=w9:=⟨_,rfl⟩
   have hx9:w9.heap[w.heap.size]?=some (.cells #[.bool false,.slice none 0 0,.slice none 0 0,.slice none 0 0] 55 (0,0)):=by
    rw[← hw9,Below.heap_setCell _ _ _ _ ZC5,Below.heap_setCell _ _ _ _ ZC5,Below.heap_setCell _ _ _ _ ZC5,Below.heap_setCell _ _ _ _ ZC5,heap_setCell_same _ _ _ _ _ _ (heap_setCell_same _ _ _ _ _ _ (heap_setCell_same _ _ _ _ _ _ (heap_setCell_same _ _ _ _ _ _ hx4)))]
    rfl
   have hy9:w9.heap[w.heap.size+1]?=some (.cells #[.bool false,.slice none 0 0,.slice none 0 0,.slice none 0 0] 55 (0,0)):=by
    rw[← hw9,heap_setCell_same _ _ _ _ _ _ (heap_setCell_same _ _ _ _ _ _ (heap_setCell_same _ _ _ _ _ _ (heap_setCell_same _ _ _ _ _ _ ((Below.heap_setCell _ _ _ _ ZC5).trans ((Below.heap_setCell _ _ _ _ ZC5).trans ((Below.heap_setCell _ _ _ _ ZC5).trans ((Below.heap_setCell _ _ _ _ ZC5).trans hy4)))))))]
    rfl
   have hb9:Below w.heap.size w w9:=by rw[← hw9];exact ((((((((hq4.setCell ZC5 _).setCell ZC5 _).setCell ZC5 _).setCell ZC5 _).setCell ZC5 _).setCell ZC5 _).setCell ZC5 _).setCell ZC5 _)
   rw[hw9]
   obtain⟨e0,e1,e2,e3,_⟩:=aF3 hx9
   obtain⟨f0,f1,f2,f3,_⟩:=aF3 hy9
   refine bodyPost_ret (v:=.tuple #[.agg #[.bool false,.slice none 0 0,.slice none 0 0,.slice none 0 0],.agg #[.bool false,.slice none 0 0,.slice none 0 0,.slice none 0 0],.int .i64 qe]) (by simp[results,Tryz.results173,go_sem,e0,e1,e2,e3,f0,f1,f2,f3]) rfl ?_
   rw[Hv.out]
   exact⟨none,0,none,0,none,0,none,0,none,0,none,0,rfl,⟨SL.nil,SL.nil,SL.nil⟩,⟨SL.nil,SL.nil,SL.nil⟩,hb9⟩
 ·have Hv:=zh (show fpS l n k=((pf0,pf0),ff) by unfold fpS;rw[if_pos (by rw[hff];exact hz),hff])
  have hb:(ff != 0)=true:=by simpa using hz
  clear hff hz
  go_enter Tryz.func173,Tryz.ntmps173
  go_wp2_with ((go_at_call 51;(with_reducible refine (aE5 _ A l c N n nc ?h1).mono ?_);(case h1=>(refine Ha.out.below tenR_stays ?_;exact BX));rw[Hf.out];rintro e1 w1 ⟨rfl,hb1⟩;have hq1:Below w.heap.size w w1:=(Below.next BX hb1 ZC8);have hx1:=(hb1.block w.heap.size ZC8).trans Hz0.out.1;have hy1:=(hb1.block (w.heap.size+1) ZH2).trans Hz0.out.2;have hlt0:w.heap.size<w1.heap.size:=(Array.getElem?_eq_some_iff.1 hx1).1;have hlt1:w.heap.size+1<w1.heap.size:=(Array.getElem?_eq_some_iff.1 hy1).1;obtain⟨r0,r1,r2,r3,r4,r5,r6,r7⟩:=aF3 hx1;obtain⟨s0,s1,s2,s3,s4,s5,s6,s7⟩:=aF3 hy1))
  obtain⟨w9,hw9⟩:∃ w9,((((((((w1.setCell ⟨w.heap.size,0,none⟩ (.bool false)).setCell ⟨w.heap.size,1,none⟩ (.slice none 0 0)).setCell ⟨w.heap.size,2,none⟩ (.slice none 0 0)).setCell ⟨w.heap.size,3,none⟩ (.slice none 0 0)).setCell ⟨w.heap.size+1,0,none⟩ (.bool false)).setCell ⟨w.heap.size+1,1,none⟩ (.slice none 0 0)).setCell ⟨w.heap.size+1,2,none⟩ (.slice none 0 0)).setCell ⟨w.heap.size+1,3,none⟩ (.slice none 0 0))=w9:=⟨_,rfl⟩
  have hx9:w9.heap[w.heap.size]?=some (.cells #[.bool false,.slice none 0 0,.slice none 0 0,.slice none 0 0] 55 (0,0)):=by
   rw[← hw9,Below.heap_setCell _ _ _ _ ZC5,Below.heap_setCell _ _ _ _ ZC5,Below.heap_setCell _ _ _ _ ZC5,Below.heap_setCell _ _ _ _ ZC5,heap_setCell_same _ _ _ _ _ _ (heap_setCell_same _ _ _ _ _ _ (heap_setCell_same _ _ _ _ _ _ (heap_setCell_same _ _ _ _ _ _ hx1)))]
   rfl
  have hy9:w9.heap[w.heap.size+1]?=some (.cells #[.bool false,.slice none 0 0,.slice none 0 0,.slice none 0 0] 55 (0,0)):=by
   rw[← hw9,heap_setCell_same _ _ _ _ _ _ (heap_setCell_same _ _ _ _ _ _ (heap_setCell_same _ _ _ _ _ _ (heap_setCell_same _ _ _ _ _ _ ((Below.heap_setCell _ _ _ _ ZC5).trans ((Below.heap_setCell _ _ _ _ ZC5).trans ((Below.heap_setCell _ _ _ _ ZC5).trans ((Below.heap_setCell _ _ _ _ ZC5).trans hy1)))))))]
   rfl
  have hb9:Below w.heap.size w w9:=by rw[← hw9];exact ((((((((hq1.setCell ZC5 _).setCell ZC5 _).setCell ZC5 _).setCell ZC5 _).setCell ZC5 _).setCell ZC5 _).setCell ZC5 _).setCell ZC5 _)
  rw[hw9]
  obtain⟨e0,e1,e2,e3,_⟩:=aF3 hx9
  obtain⟨f0,f1,f2,f3,_⟩:=aF3 hy9
  refine bodyPost_ret (v:=.tuple #[.agg #[.bool false,.slice none 0 0,.slice none 0 0,.slice none 0 0],.agg #[.bool false,.slice none 0 0,.slice none 0 0,.slice none 0 0],.int .i64 ff]) (by simp[results,Tryz.results173,go_sem,e0,e1,e2,e3,f0,f1,f2,f3]) rfl ?_
  rw[Hv.out]
  exact⟨none,0,none,0,none,0,none,0,none,0,none,0,rfl,⟨SL.nil,SL.nil,SL.nil⟩,⟨SL.nil,SL.nil,SL.nil⟩,hb9⟩
end Go.Proofs.YtablgnacmpcfeaaGreatDoor
