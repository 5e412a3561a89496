/- SrvR: Walk: work of a transaction: what all ways share; the way of a write. Walk: work of a transaction: the way of a get. Walk: work of a transaction: the way of a scan. The conditions of each are in its words. -/
import Derived.Test.YtablgnacmpcfeaaGreatDoorKSrvP
namespace Go.Proofs.YtablgnacmpcfeaaGreatDoor
open Go.RowKit
set_option linter.unusedVariables false
set_option linter.unusedSimpArgs false
set_option maxRecDepth 100000
set_option maxHeartbeats 8000000
theorem bG6 {g:Eng} {n s:Nat} {t:Tx} (h:Inv g n) (ht:(g.at s).txn=some t):0≤t.start∧t.start≤(g.synced:Int)∧t.start.toNat≤g.commits.length:=by
 obtain⟨h1,h2⟩:=h.txn s t ht
 have h3:=(aQ4.1 h1).1.1
 have h4:=h.holds.few
 exact⟨h3,h2,AO⟩
theorem aX.forest_at {F:Nat→Prop} {w:World} {G:Nat} {g:Eng} {m:Mem} (h:aX F w G g g.forests m) {k:Nat} (hk:k≤g.commits.length) :
  ∃ gf cap A c,m.v 1=.slice (some ⟨gf,0,none⟩) (g.commits.length+1) cap∧w.cell? ⟨gf,k,none⟩=some (.slice A (aS g.commits k).length c)∧(aS g.commits k).length≤c∧Ts All w A (aS g.commits k)∧gf<w.heap.size:=by
 have hl:g.forests.length=g.commits.length+1:=by unfold Eng.forests;simp
 have hg:g.forests[k]'(by omega)=aS g.commits k:=by unfold Eng.forests;simp
 obtain⟨xs,h1,h2⟩:=h.rows.fo
 have h3:=h2 k AO
 rw[hg,Nat.mul_one] at h3
 obtain⟨A,c,e1,e2,e3⟩:=h3
 rcases h1.2 with ⟨_,h0⟩|⟨gf,cap,cur,hv,_,hh,hcap,_,hcur,htk⟩
 ·omega
 ·have hxl:=h1.1
  rw[Nat.mul_one] at hxl
  refine⟨gf,cap,A,c,by rw[hv,hl],?_,e2,e3.z tenR_stays,(Array.getElem?_eq_some_iff.1 hh).1⟩
  have hc:=h1.cells (g:=gf) (by rw[hv];rfl) k xs[k] (List.getElem?_eq_getElem AO)
  rw[bC,Nat.zero_add] at hc
  rw[hc]
  have h5:((xs.drop k).take 1)[0]?=some (.slice A (aS g.commits k).length c):=by rw[e1];rfl
  rw[List.getElem?_take_of_lt AO,List.getElem?_drop,Nat.add_zero,List.getElem?_eq_getElem AO] at h5
  exact h5
theorem aO.srv {F:Nat→Prop} {w w':World} {G n:Nat} {g:Eng} {v:Value} {e:Ending} (h:aO F w G g n v e w'):Srv F w' G g n:=by
 obtain⟨_,h,_⟩:=h
 exact h
theorem aO.then {F:Nat→Prop} {w w1 w':World} {G n1 n2:Nat} {g1 g2:Eng} {v1 v:Value} {e1 e:Ending} (h1:aO F w G g1 n1 v1 e1 w1) (h2:aO F w1 G g2 n2 v e w'):aO F w G g2 n2 v e w' :=
 ⟨h2.1,h2.2.1,h1.2.2.1.trans h2.2.2.1,h1.2.2.2.trans h2.2.2.2⟩
theorem cW1 {r:Rq} (h1:r.name.length≤big) (h2:r.key.length≤big) (h3:r.value.length≤big):(aF9 r).1.name.length≤big∧(aF9 r).1.key.length≤big∧(aF9 r).1.value.length≤big:=by
 unfold aF9
 split
 ·exact⟨Nat.zero_le _,Nat.zero_le _,Nat.zero_le _⟩
 ·split
  ·exact⟨h1,h2,h3⟩
  ·exact⟨Nat.zero_le _,Nat.zero_le _,Nat.zero_le _⟩
theorem cI0 (F:Nat→Prop) (w:World) (G:Nat) (g:Eng) (n:Nat) (s:Nat) (t:Tx) (r:Rq) (cs:List Value) (h:Srv F w G g n) (hs:s<8) (ht:(g.at s).txn=some t) (hr:RqR F w cs r) (hn:n<100000) (h2:r.kind≠2) (h3:r.kind≠3) (h6:r.kind≠6) :
  Calls Tryz.prog 121 #[.pointer (some ⟨G,0,none⟩),.int .i64 (s:Int),.pointer (some ⟨G,6+s*2,none⟩),.agg cs.toArray] w (aO F w G (aG8 g s t r) (n+1) (.tuple #[])):=by
 have hr0:=hr
 obtain⟨m,hm⟩:=h.eng
 obtain⟨A,a,B,b,C,c,D,d,rfl,r1,r2,r3,r4,l1,l2,l3,l4⟩:=hr
 obtain⟨tb,X,xn,Y,yn,k0,hfb,hbx,hxn,hyn,hX,hY⟩:=hm.txn_at hs ht
 obtain⟨hst0,hst1,hsk⟩:=bG6 h.inv ht
 obtain⟨gf,fcap,FA,fc,hv1,hcf,hlf,hTs,hgf⟩:=hm.forest_at (k:=t.start.toNat) hsk
 have hc4:w.cell? ⟨G,4,none⟩=some (.slice (some ⟨gf,0,none⟩) (g.commits.length+1) fcap):=by rw[hm.cell,hm.cells.fo,hv1]
 have hG:=hm.lt
 have htb:=(Array.getElem?_eq_some_iff.1 hbx).1
 obtain⟨b0,b1,b2⟩:=bK2 hbx
 have hi0:(0:Int)≤t.start:=hst0
 have hi1:t.start<((g.commits.length+1:Nat):Int):=by omega
 have H:=zh h
 have Hm:=zh hm
 have R1:=zh r1.bz
 have R2:=zh r2.bz
 have R3:=zh r3.bz
 have R4:=zh r4.bz
 have HX:=zh (hX.z wrR_stays)
 have HY:=zh (hY.z wrR_stays)
 have HTs:=zh hTs
 have Hr:=zh hr0
 have Ht:=zh ht
 have Hst:=zh (And.intro hst0 (And.intro hst1 hsk))
 clear hr0 h hm r1 r2 r3 r4 hX hY hTs ht hbx hfb hv1 hst0 hst1 hsk
 obtain⟨q,qe,hq⟩:∃ q qe,aF9 r=(q,qe):=⟨_,_,rfl⟩
 obtain⟨z1,z2,z3⟩:=cW1 l1 l2 l4
 rw[hq] at z1 z2 z3
 dsimp only at z1 z2 z3
 obtain⟨x,e,hxe⟩:∃ x e,aD0 t q=(x,e):=⟨_,_,rfl⟩
 have Hv:=zh (show aG8 g s t r=if e=0 then (g.txn s (some x)).say (aE4 s 0) else g.say (aE4 s e) by unfold aG8 cB4;rw[if_neg h2,if_neg h3,if_neg h6,hq,hxe])
 have Hq:=zh hq
 have Hxe:=zh hxe
 have k2:(r.kind==2)=false:=by simpa using h2
 have k3:(r.kind==3)=false:=by simpa using h3
 have k6:(r.kind==6)=false:=by simpa using h6
 clear h2 h3 h6 hq hxe
 go_enter Tryz.func121,Tryz.ntmps121
 go_wp2
 go_quiet (fail)
 go_wp2_with (go_at_call 178;(with_reducible refine (cB3 _ ?hT A B C D r a b c d ?h1 ?h2 ?h3 l1 l2 l4).mono ?_);(case hT=>(refine H.out.env.has.below ?_;exact below_drewN ((Below.refl _ _).alloc zn _) _));(case h1=>(refine R1.out.bbelow ?_;exact below_drewN ((Below.refl _ _).alloc zn _) _));(case h2=>(refine R2.out.bbelow ?_;exact below_drewN ((Below.refl _ _).alloc zn _) _));(case h3=>(refine R4.out.bbelow ?_;exact below_drewN ((Below.refl _ _).alloc zn _) _));rw[Hq.out];rintro e1 w1 ⟨P1,p1,Q1,q1,V1,v1,rfl,sp,sq,sv,hb1⟩)
 have hw1:Below w.heap.size w w1:=Below.next (below_drewN ((Below.refl _ _).alloc zn _) _) hb1 AU
 have hz1:w.heap.size<w1.heap.size:=by have:=hb1.size;simp at this;omega
 have hX1:w1.heap.size<(w1.alloc (.cells #[.slice P1 q.name.length p1,.slice Q1 q.key.length q1,.bool q.flag,.slice V1 q.value.length v1] 102)).heap.size:=by simp
 have hw2:Below w.heap.size w (w1.alloc (.cells #[.slice P1 q.name.length p1,.slice Q1 q.key.length q1,.bool q.flag,.slice V1 q.value.length v1] 102)):=hw1.alloc hw1.size _
 have p0:=(hw2.cell (p:=⟨G,6+s*2,none⟩) hG).trans k0
 have t0:=(hw2.cell (p:=⟨tb,0,none⟩) htb).trans b0
 have t1:=(hw2.cell (p:=⟨tb,1,none⟩) htb).trans b1
 have t2:=(hw2.cell (p:=⟨tb,2,none⟩) htb).trans b2
 have xb:=aK w1 #[.slice P1 q.name.length p1,.slice Q1 q.key.length q1,.bool q.flag,.slice V1 q.value.length v1] 102
 have x0:=aA xb 0
 have x1:=aA xb 1
 have x2:=aA xb 2
 have x3:=aA xb 3
 simp only[List.getElem?_cons_zero,List.getElem?_cons_succ] at x0 x1 x2 x3
 have hGl:G<(w1.alloc (.cells #[.slice P1 q.name.length p1,.slice Q1 q.key.length q1,.bool q.flag,.slice V1 q.value.length v1] 102)).heap.size:=by have:=hw1.size;simp;omega
 have htl:tb<(w1.alloc (.cells #[.slice P1 q.name.length p1,.slice Q1 q.key.length q1,.bool q.flag,.slice V1 q.value.length v1] 102)).heap.size:=by have:=hw1.size;simp;omega
 have SP:=zh (sp.bz.bsame ((aC.refl _ w1).alloc (.cells #[.slice P1 q.name.length p1,.slice Q1 q.key.length q1,.bool q.flag,.slice V1 q.value.length v1] 102)))
 have SQ:=zh (sq.bz.bsame ((aC.refl _ w1).alloc (.cells #[.slice P1 q.name.length p1,.slice Q1 q.key.length q1,.bool q.flag,.slice V1 q.value.length v1] 102)))
 have SV:=zh (sv.bz.bsame ((aC.refl _ w1).alloc (.cells #[.slice P1 q.name.length p1,.slice Q1 q.key.length q1,.bool q.flag,.slice V1 q.value.length v1] 102)))
 have HX1:=zh (HX.out.below wrR_stays hw2)
 have HY1:=zh (HY.out.below wrR_stays hw2)
 have Hw2:=zh hw2
 clear hb1 hw1 hz1 hw2 xb sp sq sv b0 b1 b2 k0
 obtain⟨w2,hw2⟩:∃ w2,w2=w1.alloc (.cells #[.slice P1 q.name.length p1,.slice Q1 q.key.length q1,.bool q.flag,.slice V1 q.value.length v1] 102):=⟨_,rfl⟩
 rw[← hw2] at p0 t0 t1 t2 x0 x1 x2 x3 hX1 hGl htl SP SQ SV HX1 HY1 Hw2 ⊢
 clear hw2
 obtain⟨xn1,hxn1⟩:∃ xb,xb=w1.heap.size:=⟨_,rfl⟩
 rw[← hxn1] at x0 x1 x2 x3 hX1 ⊢
 clear hxn1
 go_region_held3 (fun w'=>w'.cell? ⟨G,6+s*2,none⟩=some (.pointer (some ⟨tb,0,none⟩))∧w'.cell? ⟨tb,0,none⟩=some (.int .i64 t.start)∧w'.cell? ⟨tb,1,none⟩=some (.slice X t.reads.length xn)∧w'.cell? ⟨tb,2,none⟩=some (.slice Y t.writes.length yn)∧w'.cell? ⟨xn1,0,none⟩=some (.slice P1 q.name.length p1)∧w'.cell? ⟨xn1,1,none⟩=some (.slice Q1 q.key.length q1)∧w'.cell? ⟨xn1,2,none⟩=some (.bool q.flag)∧w'.cell? ⟨xn1,3,none⟩=some (.slice V1 q.value.length v1))
  (first
   | go_keep
   | exact⟨(H3.out.cell hGl).trans p0,(H3.out.cell htl).trans t0,(H3.out.cell htl).trans t1,(H3.out.cell htl).trans t2,(H3.out.cell hX1).trans x0,(H3.out.cell hX1).trans x1,(H3.out.cell hX1).trans x2,(H3.out.cell hX1).trans x3⟩
   | exact⟨((H3.out.alloc H3.out.size _).cell hGl).trans p0,((H3.out.alloc H3.out.size _).cell htl).trans t0,((H3.out.alloc H3.out.size _).cell htl).trans t1,((H3.out.alloc H3.out.size _).cell htl).trans t2,((H3.out.alloc H3.out.size _).cell hX1).trans x0,((H3.out.alloc H3.out.size _).cell hX1).trans x1,((H3.out.alloc H3.out.size _).cell hX1).trans x2,((H3.out.alloc H3.out.size _).cell hX1).trans x3⟩
   | exact⟨((((H3.out.setCell hz.2 _).setCell hz.2 _).setCell hz.2 _).cell hGl).trans p0,((((H3.out.setCell hz.2 _).setCell hz.2 _).setCell hz.2 _).cell htl).trans t0,((((H3.out.setCell hz.2 _).setCell hz.2 _).setCell hz.2 _).cell htl).trans t1,((((H3.out.setCell hz.2 _).setCell hz.2 _).setCell hz.2 _).cell htl).trans t2,((((H3.out.setCell hz.2 _).setCell hz.2 _).setCell hz.2 _).cell hX1).trans x0,((((H3.out.setCell hz.2 _).setCell hz.2 _).setCell hz.2 _).cell hX1).trans x1,((((H3.out.setCell hz.2 _).setCell hz.2 _).setCell hz.2 _).cell hX1).trans x2,((((H3.out.setCell hz.2 _).setCell hz.2 _).setCell hz.2 _).cell hX1).trans x3⟩
   | exact⟨(((Below.refl w2.heap.size w2).drew.alloc ZH2 _).cell hGl).trans p0,(((Below.refl w2.heap.size w2).drew.alloc ZH2 _).cell htl).trans t0,(((Below.refl w2.heap.size w2).drew.alloc ZH2 _).cell htl).trans t1,(((Below.refl w2.heap.size w2).drew.alloc ZH2 _).cell htl).trans t2,(((Below.refl w2.heap.size w2).drew.alloc ZH2 _).cell hX1).trans x0,(((Below.refl w2.heap.size w2).drew.alloc ZH2 _).cell hX1).trans x1,(((Below.refl w2.heap.size w2).drew.alloc ZH2 _).cell hX1).trans x2,(((Below.refl w2.heap.size w2).drew.alloc ZH2 _).cell hX1).trans x3⟩
   | exact⟨((Below.refl w2.heap.size w2).drew.cell hGl).trans p0,((Below.refl w2.heap.size w2).drew.cell htl).trans t0,((Below.refl w2.heap.size w2).drew.cell htl).trans t1,((Below.refl w2.heap.size w2).drew.cell htl).trans t2,((Below.refl w2.heap.size w2).drew.cell hX1).trans x0,((Below.refl w2.heap.size w2).drew.cell hX1).trans x1,((Below.refl w2.heap.size w2).drew.cell hX1).trans x2,((Below.refl w2.heap.size w2).drew.cell hX1).trans x3⟩)
  ((go_at_call 31;(with_reducible refine (bJ4 _ X Y t xn yn P1 Q1 V1 q p1 q1 v1 ?g1 ?g2 ?g3 ?g4 ?g5 z1 z2 z3 hxn hyn).mono ?_);(case g1=>(refine HX1.out.same wrR_stays ?_;exact SM));(case g2=>(refine HY1.out.same wrR_stays ?_;exact SM));(case g3=>(refine SP.out.bsame ?_;exact SM));(case g4=>(refine SQ.out.bsame ?_;exact SM));(case g5=>(refine SV.out.bsame ?_;exact SM));rw[Hxe.out];rintro e3 w3 ⟨A3,n3,B3,m3,rfl,hn3,hm3,d1,d2,hb3⟩;have H3:=zh (show Below w2.heap.size w2 w3 from ZE1);(try (have hz:=And.intro (show w3.heap[w2.heap.size]?=some (.cells #[.int .i64 0,.slice none 0 0,.slice none 0 0] 98 (0,0)) from (hb3.block w2.heap.size AU).trans (aK w2.drew _ _)) (Nat.le_refl w2.heap.size);obtain⟨ez0,ez1,ez2,fz0,fz1,fz2⟩:w3.cell? ⟨w2.heap.size,0,none⟩=some (.int .i64 0)∧w3.cell? ⟨w2.heap.size,1,none⟩=some (.slice none 0 0)∧w3.cell? ⟨w2.heap.size,2,none⟩=some (.slice none 0 0)∧w3.frozen? ⟨w2.heap.size,0,none⟩=false∧w3.frozen? ⟨w2.heap.size,1,none⟩=false∧w3.frozen? ⟨w2.heap.size,2,none⟩=false:=⟨aA hz.1 0,aA hz.1 1,aA hz.1 2,aD hz.1 0,aD hz.1 1,aD hz.1 2⟩;have hzl:=(Array.getElem?_eq_some_iff.1 hz.1).1));have D1:=zh d1;have D2:=zh d2;clear d1 d2))
 all_goals
  first
   | (have hzc:=zh (show w3.heap[w2.heap.size]?=some (.cells #[.int .i64 0,.slice none 0 0,.slice none 0 0] 98 (0,0)) from hz.1);have HF1:bB7 w2 (((w3.setCell ⟨w2.heap.size,0,none⟩ (.int .i64 x.start)).setCell ⟨w2.heap.size,1,none⟩ (.slice A3 x.reads.length n3)).setCell ⟨w2.heap.size,2,none⟩ (.slice B3 x.writes.length m3)) w2.heap.size [.int .i64 x.start,.slice A3 x.reads.length n3,.slice B3 x.writes.length m3] 98:=⟨(((H3.out.setCell hz.2 _).setCell hz.2 _).setCell hz.2 _),zn,(by rw[(heap_setCell_same _ _ _ _ _ _ (heap_setCell_same _ _ _ _ _ _ (heap_setCell_same _ _ _ _ _ _ hz.1)))];rfl)⟩;refine bK3 (P:=fun X=>Exit.then _ _ _ _ X) _ ?_;intro WF hWF;obtain⟨nb,hnb⟩:∃ nb,nb=w2.heap.size:=⟨_,rfl⟩;have HF:=zh (show bB7 w2 WF nb [.int .i64 x.start,.slice A3 x.reads.length n3,.slice B3 x.writes.length m3] 98 by rw[hnb,← hWF];exact HF1);have D11:=zh (show Ws (aB w2.heap.size) WF A3 x.reads from by rw[← hWF];exact ((D1.out.less wrR_stays (S':=fun b=>b≠w2.heap.size∧aB w2.heap.size b) (fun b hb h=>ZD1)).same wrR_stays ((((aC.refl _ _).setCell (p:=⟨w2.heap.size,0,none⟩) (fun h=>h.1 rfl) _).setCell (p:=⟨w2.heap.size,1,none⟩) (fun h=>h.1 rfl) _).setCell (p:=⟨w2.heap.size,2,none⟩) (fun h=>h.1 rfl) _)).less wrR_stays (fun b _ h=>h.2));have D21:=zh (show Ws (aB w2.heap.size) WF B3 x.writes from by rw[← hWF];exact ((D2.out.less wrR_stays (S':=fun b=>b≠w2.heap.size∧aB w2.heap.size b) (fun b hb h=>ZD1)).same wrR_stays ((((aC.refl _ _).setCell (p:=⟨w2.heap.size,0,none⟩) (fun h=>h.1 rfl) _).setCell (p:=⟨w2.heap.size,1,none⟩) (fun h=>h.1 rfl) _).setCell (p:=⟨w2.heap.size,2,none⟩) (fun h=>h.1 rfl) _)).less wrR_stays (fun b _ h=>h.2));rw[← hnb];clear HF1 hWF hzc hnb)
   | (have HF1:bB7 w2 (w3.alloc (.cells #[.int .i64 x.start,.slice A3 x.reads.length n3,.slice B3 x.writes.length m3] 98)) w3.heap.size [.int .i64 x.start,.slice A3 x.reads.length n3,.slice B3 x.writes.length m3] 98:=⟨H3.out.alloc H3.out.size _,H3.out.size,aK w3 _ _⟩;refine bK3 (P:=fun X=>Exit.then _ _ _ _ X) _ ?_;intro WF hWF;obtain⟨nb,hnb⟩:∃ nb,nb=w3.heap.size:=⟨_,rfl⟩;have HF:=zh (show bB7 w2 WF nb [.int .i64 x.start,.slice A3 x.reads.length n3,.slice B3 x.writes.length m3] 98 by rw[hnb,← hWF];exact HF1);have D11:=zh (show Ws (aB w2.heap.size) WF A3 x.reads from by rw[← hWF];exact (D1.out.same wrR_stays ((aC.refl _ _).alloc _)).less wrR_stays (fun b _ h=>ZD1));have D21:=zh (show Ws (aB w2.heap.size) WF B3 x.writes from by rw[← hWF];exact (D2.out.same wrR_stays ((aC.refl _ _).alloc _)).less wrR_stays (fun b _ h=>ZD1));rw[← hnb];clear HF1 hWF hnb)
 all_goals
  have hwF:Below w.heap.size w WF:=Hw2.out.next HF.out.b Hw2.out.size
  have HmF:=zh (Hm.out.below (F':=F) hwF fun b hb=>.inl hb)
  have hGF:G<WF.heap.size:=HmF.out.lt
  have kF:WF.cell? ⟨G,6+s*2,none⟩=some (bG3 (m.px s)):=(HmF.out.cell _).trans (HmF.out.cells.px s hs)
  have fF:WF.frozen? ⟨G,6+s*2,none⟩=false:=HmF.out.frozen _
  have hz2:w.heap.size≤w2.heap.size:=Hw2.out.size
  by_cases he:e=0
  ·have hb1:(e==0)=true:=by simp[he]
   have Hv1:=zh (show aG8 g s t r=(g.txn s (some x)).say (aE4 s e) by rw[Hv.out,if_pos he,he])
   have Hfine:=zh (show aN x=0∧x.start≤(g.synced:Int) by
    have h1:=bS4 (t:=t) (r:=q) (by rw[Hxe.out];exact he)
    rw[Hxe.out] at h1
    exact⟨h1.1,by rw[h1.2.1];exact (H.out.inv.txn s t Ht.out).2⟩)
   have hp:=zh (cB8 H.out Hm.out hs hwF (Nat.le_trans hz2 HF.out.lo) HF.out.box hn3 hm3 (D11.out.lo wrR_stays hz2) (D21.out.lo wrR_stays hz2) Hfine.out (Nat.le_refl n) (.bool true))
   clear he
   go_wp2_with (go_at_call 117;(with_reducible refine (aF2 F _ G (g.txn s (some x)) n s e hp.out.srv AO).mono ?_);rintro e4 w4 hp5;obtain⟨rfl,hp5⟩:=hp5)
   refine bodyPost_end (v:=.tuple #[]) (by simp[results,Tryz.results121,go_sem]) rfl ?_
   rw[Hv1.out]
   exact aO.then hp.out ⟨rfl,hp5⟩
  ·have hb1:(e==0)=false:=by simpa using he
   have Hv1:=zh (show aG8 g s t r=g.say (aE4 s e) by rw[Hv.out,if_neg he])
   clear he
   go_wp2_with (go_at_call 117;(with_reducible refine (aF2 (Fx F w WF) _ G g n s e (H.out.below hwF) AO).mono ?_);rintro e4 w4 hp5;obtain⟨rfl,hp5⟩:=hp5)
   refine bodyPost_end (v:=.tuple #[]) (by simp[results,Tryz.results121,go_sem]) rfl ?_
   rw[Hv1.out]
   exact aO.from H.out hwF ⟨rfl,hp5⟩
theorem Srv.drew {F:Nat→Prop} {w:World} {G n:Nat} {g:Eng} (h:Srv F w G g n):Srv F w.drew G g n :=
 ⟨h.eng.below ((Below.refl _ _).drew) fun b hb=>.inl hb,h.env.same ((aC.refl _ _).drew),h.inv,h.low⟩
theorem aO.drew_from {F:Nat→Prop} {w w':World} {G n:Nat} {g:Eng} {v:Value} {e:Ending} (h:(e=.returned v)∧Srv F w' G g n∧aC F w.drew w'∧Below 0 w.drew w'):aO F w G g n v e w' :=
 ⟨h.1,h.2.1,⟨h.2.2.1.size,h.2.2.1.block⟩,⟨h.2.2.2.os,h.2.2.2.tape,h.2.2.2.output,h.2.2.2.size,h.2.2.2.block⟩⟩
theorem rqR_up {F:Nat→Prop} {w w':World} {cs:List Value} {r:Rq} (h:RqR F w cs r) (hb:Below w.heap.size w w'):RqR (Fx F w w') w' cs r:=by
 obtain⟨A,a,B,b,C,c,D,d,h0,h1,h2,h3,h4,h5⟩:=h
 exact⟨A,a,B,b,C,c,D,d,h0,(h1.bbelow hb).bless fun _ _ h=>.inl h,(h2.bbelow hb).bless fun _ _ h=>.inl h,(h3.bbelow hb).bless fun _ _ h=>.inl h,(h4.bbelow hb).bless fun _ _ h=>.inl h,h5⟩
theorem cI1 {g ge:Eng} {s:Nat} {t:Tx} {r:Rq} (hl:g.sess.length=8) (hs:s<8) (h:aE8 g s t r=(ge,true)):∃ x,(ge.at s).txn=some x∧x.start=t.start:=by
 unfold aE8 at h
 by_cases h1:(aH7 t (aG1 r).1).2=0
 ·rw[if_neg ZE3] at h
  obtain⟨rfl,_⟩:=Prod.mk.inj h
  refine⟨_,?_,(bH9 h1).2.1⟩
  unfold Eng.txn
  rw[aH6 g s s _ AO,if_pos rfl]
 ·rw[if_pos h1] at h
  have:=(Prod.mk.inj h).2
  cases this
theorem Srv.with_txn {F:Nat→Prop} {w:World} {G n:Nat} {g:Eng} (h:Srv F w G g n) {s:Nat} (hs:s<8) {t:Tx} (ht:(g.at s).txn=some t) :
  ∃ tb,w.cell? ⟨G,6+s*2,none⟩=some (.pointer (some ⟨tb,0,none⟩))∧w.cell? ⟨tb,0,none⟩=some (.int .i64 t.start)∧tb<w.heap.size∧G<w.heap.size∧Srv (fun b=>F b∨b=tb) w G g n:=by
 obtain⟨m,hm⟩:=h.eng
 obtain⟨tb,X,xn,Y,yn,p0,hfx,hbx,_⟩:=hm.txn_at hs ht
 have hl:=(Array.getElem?_eq_some_iff.1 hbx).1
 refine⟨tb,p0,(bK2 hbx).1,hl,hm.lt,⟨⟨m,{ hm with fixF:=?_ }⟩,h.env.more fun b hb=>.inl hb,h.inv,?_⟩⟩
 ·intro b hb
  rcases hb with hb|rfl
  ·exact hm.fixF b hb
  ·exact hfx
 ·intro b hb
  rcases hb with hb|rfl
  ·exact h.low b hb
  ·exact hl
theorem rp_get {S:Nat→Prop} {w:World} {V:Option Addr} {val:List UInt8} {v:Nat} (s t:Int) (f:Bool) (h:Bs S w V val):RpR S w [.int .i64 s,.int .i64 0,.int .i64 t,.bool f,.slice V val.length v,.slice none 0 0,.slice none 0 0,.bool false,.slice none 0 0,.slice none 0 0,.slice none 0 0,.bool false,.slice none 0 0,.slice none 0 0,.slice none 0 0] { rp0 with session:=s,turn:=t,found:=f,value:=val } :=
 ⟨V,v,none,0,none,0,none,0,none,0,none,0,none,0,none,0,none,0,rfl,h,SL.nil,SL.nil,⟨SL.nil,SL.nil,SL.nil⟩,SL.nil,SL.nil,SL.nil⟩
theorem cW2 (F:Nat→Prop) (w:World) (G:Nat) (g:Eng) (n:Nat) (s:Nat) (t:Tx) (r:Rq) (cs:List Value) (h:Srv F w G g n) (hs:s<8) (ht:(g.at s).txn=some t) (hr:RqR F w cs r) (hn:n<100000) (h2:r.kind=2) :
  Calls Tryz.prog 121 #[.pointer (some ⟨G,0,none⟩),.int .i64 (s:Int),.pointer (some ⟨G,6+s*2,none⟩),.agg cs.toArray] w (aO F w G (aG8 g s t r) (n+1) (.tuple #[])):=by
 have hr0:=hr
 obtain⟨m,hm⟩:=h.eng
 obtain⟨A,a,B,b,C,c,D,d,rfl,r1,r2,r3,r4,l1,l2,l3,l4⟩:=hr
 obtain⟨tb,X,xn,Y,yn,k0,hfb,hbx,hxn,hyn,hX,hY⟩:=hm.txn_at hs ht
 obtain⟨hst0,hst1,hsk⟩:=bG6 h.inv ht
 obtain⟨gf,fcap,FA,fc,hv1,hcf,hlf,hTs,hgf⟩:=hm.forest_at (k:=t.start.toNat) hsk
 have hc4:w.cell? ⟨G,4,none⟩=some (.slice (some ⟨gf,0,none⟩) (g.commits.length+1) fcap):=by rw[hm.cell,hm.cells.fo,hv1]
 have hG:=hm.lt
 have htb:=(Array.getElem?_eq_some_iff.1 hbx).1
 obtain⟨b0,b1,b2⟩:=bK2 hbx
 have hi0:(0:Int)≤t.start:=hst0
 have hi1:t.start<((g.commits.length+1:Nat):Int):=by omega
 have H:=zh h
 have Hm:=zh hm
 have R1:=zh r1.bz
 have R2:=zh r2.bz
 have R3:=zh r3.bz
 have R4:=zh r4.bz
 have HX:=zh (hX.z wrR_stays)
 have HY:=zh (hY.z wrR_stays)
 have HTs:=zh hTs
 have Hr:=zh hr0
 have Ht:=zh ht
 have Hst:=zh (And.intro hst0 (And.intro hst1 hsk))
 clear hr0 h hm r1 r2 r3 r4 hX hY hTs ht hbx hfb hv1 hst0 hst1 hsk
 obtain⟨fb,fv,fo,fe,hlk⟩:∃ fb fv fo fe,aS6 (aS g.commits t.start.toNat) t r.name r.key=(((fb,fv),fo),fe):=⟨_,_,_,_,rfl⟩
 have Hlk:=zh hlk
 have Hv:=zh (show aG8 g s t r=if fo=false∧(aE8 g s t r).2=false then (aE8 g s t r).1 else (if fo=true then g else (aE8 g s t r).1).say { rp0 with session:=s,turn:=t.start,found:=fb,value:=fv } by unfold aG8 getE;rw[if_pos h2,hlk])
 have k2:(r.kind==2)=true:=by simpa using h2
 have K0:=zh k0
 have B0:=zh b0
 have hTb:=htb
 clear h2 hlk
 go_enter Tryz.func121,Tryz.ntmps121
 go_wp2
 go_quiet (fail)
 go_wp2_with fail
 have hw2:Below w.heap.size w ((w.alloc (.cells #[.int .i64 r.kind,.slice A r.name.length a,.slice B r.key.length b,.slice C r.last.length c,.slice D r.value.length d] 48)).drewN nq):=below_drewN ((Below.refl _ _).alloc zn _) _
 have p0:=(hw2.cell (p:=⟨G,6+s*2,none⟩) hG).trans k0
 have t0:=(hw2.cell (p:=⟨tb,0,none⟩) htb).trans b0
 have t1:=(hw2.cell (p:=⟨tb,1,none⟩) htb).trans b1
 have t2:=(hw2.cell (p:=⟨tb,2,none⟩) htb).trans b2
 have xb:((w.alloc (.cells #[.int .i64 r.kind,.slice A r.name.length a,.slice B r.key.length b,.slice C r.last.length c,.slice D r.value.length d] 48)).drewN nq).heap[w.heap.size]?=some (.cells #[.int .i64 r.kind,.slice A r.name.length a,.slice B r.key.length b,.slice C r.last.length c,.slice D r.value.length d] 48 (0,0)):=aK w #[.int .i64 r.kind,.slice A r.name.length a,.slice B r.key.length b,.slice C r.last.length c,.slice D r.value.length d] 48
 have x0:=aA xb 0
 have x1:=aA xb 1
 have x2:=aA xb 2
 have x3:=aA xb 3
 have x4:=aA xb 4
 simp only[List.getElem?_cons_zero,List.getElem?_cons_succ] at x0 x1 x2 x3 x4
 have hrb:w.heap.size<((w.alloc (.cells #[.int .i64 r.kind,.slice A r.name.length a,.slice B r.key.length b,.slice C r.last.length c,.slice D r.value.length d] 48)).drewN nq).heap.size:=by simp
 have hGl:G<((w.alloc (.cells #[.int .i64 r.kind,.slice A r.name.length a,.slice B r.key.length b,.slice C r.last.length c,.slice D r.value.length d] 48)).drewN nq).heap.size:=Nat.lt_of_lt_of_le hG hw2.size
 have htl:tb<((w.alloc (.cells #[.int .i64 r.kind,.slice A r.name.length a,.slice B r.key.length b,.slice C r.last.length c,.slice D r.value.length d] 48)).drewN nq).heap.size:=Nat.lt_of_lt_of_le htb hw2.size
 have SP:=zh (R1.out.bbelow hw2)
 have SQ:=zh (R2.out.bbelow hw2)
 have SL3:=zh (R3.out.bbelow hw2)
 have HX1:=zh (HX.out.below wrR_stays hw2)
 have HY1:=zh (HY.out.below wrR_stays hw2)
 have HT2:=zh (HTs.out.below tenR_stays hw2)
 have Hw2:=zh hw2
 clear hw2 b0 b1 b2 k0
 obtain⟨w2,hw2⟩:∃ w2,w2=(w.alloc (.cells #[.int .i64 r.kind,.slice A r.name.length a,.slice B r.key.length b,.slice C r.last.length c,.slice D r.value.length d] 48)).drewN nq:=⟨_,rfl⟩
 rw[← hw2] at xb p0 t0 t1 t2 x0 x1 x2 x3 x4 hrb hGl htl SP SQ SL3 HX1 HY1 HT2 Hw2 ⊢
 clear hw2
 obtain⟨rb,hrbe⟩:∃ rb,rb=w.heap.size:=⟨_,rfl⟩
 rw[← hrbe] at xb x0 x1 x2 x3 x4 hrb ⊢
 have XB:=zh xb
 clear xb
 have Hrb:=zh hrbe
 clear hrbe
 go_region_held3 (fun w'=>w'.cell? ⟨G,6+s*2,none⟩=some (.pointer (some ⟨tb,0,none⟩))∧w'.cell? ⟨tb,0,none⟩=some (.int .i64 t.start)∧w'.cell? ⟨tb,1,none⟩=some (.slice X t.reads.length xn)∧w'.cell? ⟨tb,2,none⟩=some (.slice Y t.writes.length yn)∧w'.cell? ⟨rb,1,none⟩=some (.slice A r.name.length a)∧w'.cell? ⟨rb,2,none⟩=some (.slice B r.key.length b))
  (first
   | go_keep
   | exact⟨(H3.out.cell hGl).trans p0,(H3.out.cell htl).trans t0,(H3.out.cell htl).trans t1,(H3.out.cell htl).trans t2,(H3.out.cell hrb).trans x1,(H3.out.cell hrb).trans x2⟩
   | exact⟨((H3.out.alloc H3.out.size _).cell hGl).trans p0,((H3.out.alloc H3.out.size _).cell htl).trans t0,((H3.out.alloc H3.out.size _).cell htl).trans t1,((H3.out.alloc H3.out.size _).cell htl).trans t2,((H3.out.alloc H3.out.size _).cell hrb).trans x1,((H3.out.alloc H3.out.size _).cell hrb).trans x2⟩
   | exact⟨(((H3.out.setCell hz.2 _).setCell hz.2 _).cell hGl).trans p0,(((H3.out.setCell hz.2 _).setCell hz.2 _).cell htl).trans t0,(((H3.out.setCell hz.2 _).setCell hz.2 _).cell htl).trans t1,(((H3.out.setCell hz.2 _).setCell hz.2 _).cell htl).trans t2,(((H3.out.setCell hz.2 _).setCell hz.2 _).cell hrb).trans x1,(((H3.out.setCell hz.2 _).setCell hz.2 _).cell hrb).trans x2⟩
   | exact⟨(((Below.refl w2.heap.size w2).drew.alloc ZH2 _).cell hGl).trans p0,(((Below.refl w2.heap.size w2).drew.alloc ZH2 _).cell htl).trans t0,(((Below.refl w2.heap.size w2).drew.alloc ZH2 _).cell htl).trans t1,(((Below.refl w2.heap.size w2).drew.alloc ZH2 _).cell htl).trans t2,(((Below.refl w2.heap.size w2).drew.alloc ZH2 _).cell hrb).trans x1,(((Below.refl w2.heap.size w2).drew.alloc ZH2 _).cell hrb).trans x2⟩
   | exact⟨((Below.refl w2.heap.size w2).drew.cell hGl).trans p0,((Below.refl w2.heap.size w2).drew.cell htl).trans t0,((Below.refl w2.heap.size w2).drew.cell htl).trans t1,((Below.refl w2.heap.size w2).drew.cell htl).trans t2,((Below.refl w2.heap.size w2).drew.cell hrb).trans x1,((Below.refl w2.heap.size w2).drew.cell hrb).trans x2⟩)
  ((go_at_call 174;(with_reducible refine (look_ok _ FA (aS g.commits t.start.toNat) fc X Y t xn yn A r.name a B r.key b ?g0 ?g1 ?g2 ?g3 ?g4 hxn hyn).mono ?_);(case g0=>(refine HT2.out.same tenR_stays ?_;exact SM));(case g1=>(refine HX1.out.same wrR_stays ?_;exact SM));(case g2=>(refine HY1.out.same wrR_stays ?_;exact SM));(case g3=>(refine SP.out.bsame ?_;exact SM));(case g4=>(refine SQ.out.bsame ?_;exact SM));rw[Hlk.out];rintro e3 w3 ⟨A3,n3,rfl,d1,hb3⟩;have H3:=zh (show Below w2.heap.size w2 w3 from ZE1);(try (have hz:=And.intro (show w3.heap[w2.heap.size]?=some (.cells #[.bool false,.slice none 0 0] 81 (0,0)) from (hb3.block w2.heap.size AU).trans (aK w2.drew _ _)) (Nat.le_refl w2.heap.size);obtain⟨ez0,ez1,fz0,fz1⟩:w3.cell? ⟨w2.heap.size,0,none⟩=some (.bool false)∧w3.cell? ⟨w2.heap.size,1,none⟩=some (.slice none 0 0)∧w3.frozen? ⟨w2.heap.size,0,none⟩=false∧w3.frozen? ⟨w2.heap.size,1,none⟩=false:=⟨aA hz.1 0,aA hz.1 1,aD hz.1 0,aD hz.1 1⟩;have hzl:=(Array.getElem?_eq_some_iff.1 hz.1).1));have D1:=zh d1;clear d1))
 all_goals
  first
   | (have hzc:=zh (show w3.heap[w2.heap.size]?=some (.cells #[.bool false,.slice none 0 0] 81 (0,0)) from hz.1);have HF1:bB7 w2 ((w3.setCell ⟨w2.heap.size,0,none⟩ (.bool fb)).setCell ⟨w2.heap.size,1,none⟩ (.slice A3 fv.length n3)) w2.heap.size [.bool fb,.slice A3 fv.length n3] 81:=⟨((H3.out.setCell hz.2 _).setCell hz.2 _),zn,(by rw[(heap_setCell_same _ _ _ _ _ _ (heap_setCell_same _ _ _ _ _ _ hz.1))];rfl)⟩;refine bK3 (P:=fun X=>Exit.then _ _ _ _ X) _ ?_;intro WF hWF;obtain⟨nb,hnb⟩:∃ nb,nb=w2.heap.size:=⟨_,rfl⟩;have HF:=zh (show bB7 w2 WF nb [.bool fb,.slice A3 fv.length n3] 81 by rw[hnb,← hWF];exact HF1);have D11:=zh (show Bs (aB w2.heap.size) WF A3 fv from by rw[← hWF];exact ((D1.out.bless (S':=fun b=>b≠w2.heap.size∧aB w2.heap.size b) (fun b hb h=>ZD1)).bsame (((aC.refl _ _).setCell (p:=⟨w2.heap.size,0,none⟩) (fun h=>h.1 rfl) _).setCell (p:=⟨w2.heap.size,1,none⟩) (fun h=>h.1 rfl) _)).bless (fun b _ h=>h.2));rw[← hnb];clear HF1 hWF hzc hnb)
   | (have HF1:bB7 w2 (w3.alloc (.cells #[.bool fb,.slice A3 fv.length n3] 81)) w3.heap.size [.bool fb,.slice A3 fv.length n3] 81:=⟨H3.out.alloc H3.out.size _,H3.out.size,aK w3 _ _⟩;refine bK3 (P:=fun X=>Exit.then _ _ _ _ X) _ ?_;intro WF hWF;obtain⟨nb,hnb⟩:∃ nb,nb=w3.heap.size:=⟨_,rfl⟩;have HF:=zh (show bB7 w2 WF nb [.bool fb,.slice A3 fv.length n3] 81 by rw[hnb,← hWF];exact HF1);have D11:=zh (show Bs (aB w2.heap.size) WF A3 fv from by rw[← hWF];exact (D1.out.bsame ((aC.refl _ _).alloc _)).bless (fun b _ h=>ZD1));rw[← hnb];clear HF1 hWF hnb)
 all_goals
  have hwF:Below w.heap.size w WF:=Hw2.out.next HF.out.b Hw2.out.size
  have hz2:w.heap.size≤w2.heap.size:=Hw2.out.size
  have f0:=aA HF.out.box 0
  have f1:=aA HF.out.box 1
  simp only[List.getElem?_cons_zero,List.getElem?_cons_succ] at f0 f1
  have hnl:=(Array.getElem?_eq_some_iff.1 HF.out.box).1
  have Hnl:=zh hnl
  have hnlo:w.heap.size≤nb:=Nat.le_trans hz2 HF.out.lo
  clear p0 t0 t1 t2 x0 x1 x2 x3 x4
  have hv9:Bs (Fx F w WF) WF A3 fv:=cH9 (D11.out.blo hz2)
  have Hv9:=zh hv9
  have HwF:=zh hwF
  have HwB:=zh HF.out.b
  have Hf0:=zh f0
  have Hf1:=zh f1
  clear hv9
  cases fo with
  | true =>
   have Hv1:=zh (show aG8 g s t r=g.say { rp0 with session:=s,turn:=t.start,found:=fb,value:=fv } by rw[Hv.out,if_neg ZH2,if_pos rfl])
   obtain⟨tb6,p0,t0,htl',hGl',hS6⟩:=(H.out.below HwF.out).with_txn hs Ht.out
   have HS6:=zh hS6
   clear hwF hS6
   go_wp2
   go_region_held3 (fun w'=>w'.cell? ⟨G,6+s*2,none⟩=some (.pointer (some ⟨tb6,0,none⟩))∧w'.cell? ⟨tb6,0,none⟩=some (.int .i64 t.start)∧w'.cell? ⟨nb,0,none⟩=some (.bool fb)∧w'.cell? ⟨nb,1,none⟩=some (.slice A3 fv.length n3))
    (first
     | go_keep
     | exact⟨(hc6 _ AO).trans p0,(hp5.2.1.cell (p:=⟨tb6,0,none⟩) (.inr rfl) htl').trans t0,(hp5.2.1.cell (p:=⟨nb,0,none⟩) (.inl (.inr ⟨hnlo,Hnl.out⟩)) hnl).trans f0,(hp5.2.1.cell (p:=⟨nb,1,none⟩) (.inl (.inr ⟨hnlo,Hnl.out⟩)) hnl).trans f1⟩)
    ((go_at_call 119;(with_reducible refine (aT1 (fun b=>Fx F w WF b∨b=tb6) _ G g n { rp0 with session:=s,turn:=t.start,found:=fb,value:=fv } _ HS6.out.drew (rp_get (s:Int) t.start fb (((Hv9.out).bsame ((aC.refl _ _).drew)).bless fun _ _ h=>.inl h)) AO).mono ?_);rintro e6 w6 ⟨hp5,hc6⟩;obtain⟨rfl,hp5⟩:=hp5))
   all_goals go_wp2
   refine bodyPost_end (v:=.tuple #[]) (by simp[results,Tryz.results121,go_sem]) rfl ?_
   rw[Hv1.out]
   exact aO.from H.out HwF.out (aO.less (H.out.below HwF.out) (fun _ h=>.inl h) (aO.drew_from ⟨rfl,hp5⟩))
  | false =>
   obtain⟨ge,nq2,hne⟩:∃ ge nq2,aE8 g s t r=(ge,nq2):=⟨_,_,rfl⟩
   have Hne:=zh hne
   have HrF:=zh (rqR_up (F:=F) Hr.out hwF)
   cases nq2 with
   | false =>
    have Hv1:=zh (show aG8 g s t r=ge by rw[Hv.out,hne,if_pos ⟨rfl,rfl⟩])
    have Hn1:=zh (show aV4 g s t r n=n+1 by unfold aV4;rw[hne];rfl)
    have yb:=(HwB.out.block rb hrb).trans XB.out
    have y0:=aA yb 0
    have y1:=aA yb 1
    have y2:=aA yb 2
    have y3:=aA yb 3
    have y4:=aA yb 4
    simp only[List.getElem?_cons_zero,List.getElem?_cons_succ] at y0 y1 y2 y3 y4
    have hrl:rb<WF.heap.size:=Nat.lt_of_lt_of_le hrb HwB.out.size
    clear yb
    clear hne hwF
    go_wp2_with (go_at_call 175;(with_reducible refine (aX4 (Fx F w WF) _ G g n s t r _ (H.out.below HwF.out) hs Ht.out HrF.out AO).mono ?_);rw[Hne.out,Hn1.out];rintro e5 w5 hp5;obtain⟨rfl,hp5⟩:=hp5)
    refine bodyPost_end (v:=.tuple #[]) (by simp[results,Tryz.results121,go_sem]) rfl ?_
    rw[Hv1.out]
    exact aO.from H.out HwF.out ⟨rfl,hp5⟩
   | true =>
    have Hv1:=zh (show aG8 g s t r=ge.say { rp0 with session:=s,turn:=t.start,found:=fb,value:=fv } by rw[Hv.out,hne,if_neg ZH2,if_neg ZH2])
    have Hn1:=zh (show aV4 g s t r n=n by unfold aV4;rw[hne];rfl)
    obtain⟨x5,hx5,hs5⟩:=cI1 (g:=g) H.out.inv.sess hs hne
    have yb:=(HwB.out.block rb hrb).trans XB.out
    have y0:=aA yb 0
    have y1:=aA yb 1
    have y2:=aA yb 2
    have y3:=aA yb 3
    have y4:=aA yb 4
    simp only[List.getElem?_cons_zero,List.getElem?_cons_succ] at y0 y1 y2 y3 y4
    have hrl:rb<WF.heap.size:=Nat.lt_of_lt_of_le hrb HwB.out.size
    clear yb
    clear hne hwF
    go_wp2_with (go_at_call 175;(with_reducible refine (aX4 (Fx F w WF) _ G g n s t r _ (H.out.below HwF.out) hs Ht.out HrF.out AO).mono ?_);rw[Hne.out,Hn1.out];rintro e5 w5 hp5;obtain⟨rfl,hq5,hsm5,hb5⟩:=hp5;obtain⟨tb5,p0,t0,htl',hGl',hS6⟩:=hq5.with_txn hs hx5;rw[hs5] at t0;have HS6:=zh hS6;have hf5:=hsm5.block nb (.inr ⟨hnlo,hnl⟩) hnl;have f0:=(World.cell?_of_block (a:=⟨nb,0,none⟩) hf5).trans Hf0.out;have f1:=(World.cell?_of_block (a:=⟨nb,1,none⟩) hf5).trans Hf1.out;have hnl:=Nat.lt_of_lt_of_le hnl hsm5.size;have Hv5:=zh (Hv9.out.bsame hsm5);have Hq5:=zh hq5;have Hs5:=zh hsm5;have Hb5:=zh hb5;clear hq5 hsm5 hb5 hS6 hf5)
    go_region_held3 (fun w'=>w'.cell? ⟨G,6+s*2,none⟩=some (.pointer (some ⟨tb5,0,none⟩))∧w'.cell? ⟨tb5,0,none⟩=some (.int .i64 t.start)∧w'.cell? ⟨nb,0,none⟩=some (.bool fb)∧w'.cell? ⟨nb,1,none⟩=some (.slice A3 fv.length n3))
     (first
      | go_keep
      | exact⟨(hc6 _ AO).trans p0,(hp5.2.1.cell (p:=⟨tb5,0,none⟩) (.inr rfl) htl').trans t0,(hp5.2.1.cell (p:=⟨nb,0,none⟩) (.inl (.inr ⟨hnlo,Hnl.out⟩)) hnl).trans f0,(hp5.2.1.cell (p:=⟨nb,1,none⟩) (.inl (.inr ⟨hnlo,Hnl.out⟩)) hnl).trans f1⟩)
     ((go_at_call 119;(with_reducible refine (aT1 (fun b=>Fx F w WF b∨b=tb5) _ G ge n { rp0 with session:=s,turn:=t.start,found:=fb,value:=fv } _ HS6.out.drew (rp_get (s:Int) t.start fb (((Hv5.out).bsame ((aC.refl _ _).drew)).bless fun _ _ h=>.inl h)) AO).mono ?_);rintro e6 w6 ⟨hp5,hc6⟩;obtain⟨rfl,hp5⟩:=hp5))
    all_goals go_wp2
    refine bodyPost_end (v:=.tuple #[]) (by simp[results,Tryz.results121,go_sem]) rfl ?_
    rw[Hv1.out]
    exact aO.from H.out HwF.out (aO.then (v1:=.bool true) ⟨rfl,Hq5.out,Hs5.out,Hb5.out⟩ (aO.less Hq5.out (fun _ h=>.inl h) (aO.drew_from ⟨rfl,hp5⟩)))
theorem rp_scan {S:Nat→Prop} {w:World} {P:Option Addr} {l:List Pr} {p:Nat} (s t:Int) (h:Ps S w P l):RpR S w [.int .i64 s,.int .i64 0,.int .i64 t,.bool false,.slice none 0 0,.slice P l.length p,.slice none 0 0,.bool false,.slice none 0 0,.slice none 0 0,.slice none 0 0,.bool false,.slice none 0 0,.slice none 0 0,.slice none 0 0] { rp0 with session:=s,turn:=t,pairs:=l } :=
 ⟨none,0,P,p,none,0,none,0,none,0,none,0,none,0,none,0,none,0,rfl,SL.nil,h,SL.nil,⟨SL.nil,SL.nil,SL.nil⟩,SL.nil,SL.nil,SL.nil⟩
theorem cO6 (F:Nat→Prop) (w:World) (G:Nat) (g:Eng) (n:Nat) (s:Nat) (t:Tx) (r:Rq) (cs:List Value) (h:Srv F w G g n) (hs:s<8) (ht:(g.at s).txn=some t) (hr:RqR F w cs r) (hn:n<100000) (h2:r.kind≠2) (h3:r.kind=3) :
  Calls Tryz.prog 121 #[.pointer (some ⟨G,0,none⟩),.int .i64 (s:Int),.pointer (some ⟨G,6+s*2,none⟩),.agg cs.toArray] w (aO F w G (aG8 g s t r) (n+1) (.tuple #[])):=by
 have hr0:=hr
 obtain⟨m,hm⟩:=h.eng
 obtain⟨A,a,B,b,C,c,D,d,rfl,r1,r2,r3,r4,l1,l2,l3,l4⟩:=hr
 obtain⟨tb,X,xn,Y,yn,k0,hfb,hbx,hxn,hyn,hX,hY⟩:=hm.txn_at hs ht
 obtain⟨hst0,hst1,hsk⟩:=bG6 h.inv ht
 obtain⟨gf,fcap,FA,fc,hv1,hcf,hlf,hTs,hgf⟩:=hm.forest_at (k:=t.start.toNat) hsk
 have hc4:w.cell? ⟨G,4,none⟩=some (.slice (some ⟨gf,0,none⟩) (g.commits.length+1) fcap):=by rw[hm.cell,hm.cells.fo,hv1]
 have hG:=hm.lt
 have htb:=(Array.getElem?_eq_some_iff.1 hbx).1
 obtain⟨b0,b1,b2⟩:=bK2 hbx
 have hi0:(0:Int)≤t.start:=hst0
 have hi1:t.start<((g.commits.length+1:Nat):Int):=by omega
 have H:=zh h
 have Hm:=zh hm
 have R1:=zh r1.bz
 have R2:=zh r2.bz
 have R3:=zh r3.bz
 have R4:=zh r4.bz
 have HX:=zh (hX.z wrR_stays)
 have HY:=zh (hY.z wrR_stays)
 have HTs:=zh hTs
 have Hr:=zh hr0
 have Ht:=zh ht
 have Hst:=zh (And.intro hst0 (And.intro hst1 hsk))
 clear hr0 h hm r1 r2 r3 r4 hX hY hTs ht hbx hfb hv1 hst0 hst1 hsk
 obtain⟨sl,se,hsc⟩:∃ sl se,aU6 (aS g.commits t.start.toNat) t r.name r.key r.last=(sl,se):=⟨_,_,rfl⟩
 have Hsc:=zh hsc
 have Hv:=zh (show aG8 g s t r=if se≠0 then g.say (aE4 s se) else if (aE8 g s t r).2=false then (aE8 g s t r).1 else (aE8 g s t r).1.say { rp0 with session:=s,turn:=t.start,pairs:=sl } by unfold aG8 scanE;rw[if_neg h2,if_pos h3,hsc])
 have k2:(r.kind==2)=false:=by simpa using h2
 have k3:(r.kind==3)=true:=by simpa using h3
 clear h2 h3 hsc
 go_enter Tryz.func121,Tryz.ntmps121
 go_wp2
 go_quiet (fail)
 go_wp2_with fail
 have hw2:Below w.heap.size w ((w.alloc (.cells #[.int .i64 r.kind,.slice A r.name.length a,.slice B r.key.length b,.slice C r.last.length c,.slice D r.value.length d] 48)).drewN nq):=below_drewN ((Below.refl _ _).alloc zn _) _
 have p0:=(hw2.cell (p:=⟨G,6+s*2,none⟩) hG).trans k0
 have t0:=(hw2.cell (p:=⟨tb,0,none⟩) htb).trans b0
 have t1:=(hw2.cell (p:=⟨tb,1,none⟩) htb).trans b1
 have t2:=(hw2.cell (p:=⟨tb,2,none⟩) htb).trans b2
 have xb:((w.alloc (.cells #[.int .i64 r.kind,.slice A r.name.length a,.slice B r.key.length b,.slice C r.last.length c,.slice D r.value.length d] 48)).drewN nq).heap[w.heap.size]?=some (.cells #[.int .i64 r.kind,.slice A r.name.length a,.slice B r.key.length b,.slice C r.last.length c,.slice D r.value.length d] 48 (0,0)):=aK w #[.int .i64 r.kind,.slice A r.name.length a,.slice B r.key.length b,.slice C r.last.length c,.slice D r.value.length d] 48
 have x0:=aA xb 0
 have x1:=aA xb 1
 have x2:=aA xb 2
 have x3:=aA xb 3
 have x4:=aA xb 4
 simp only[List.getElem?_cons_zero,List.getElem?_cons_succ] at x0 x1 x2 x3 x4
 have hrb:w.heap.size<((w.alloc (.cells #[.int .i64 r.kind,.slice A r.name.length a,.slice B r.key.length b,.slice C r.last.length c,.slice D r.value.length d] 48)).drewN nq).heap.size:=by simp
 have hGl:G<((w.alloc (.cells #[.int .i64 r.kind,.slice A r.name.length a,.slice B r.key.length b,.slice C r.last.length c,.slice D r.value.length d] 48)).drewN nq).heap.size:=Nat.lt_of_lt_of_le hG hw2.size
 have htl:tb<((w.alloc (.cells #[.int .i64 r.kind,.slice A r.name.length a,.slice B r.key.length b,.slice C r.last.length c,.slice D r.value.length d] 48)).drewN nq).heap.size:=Nat.lt_of_lt_of_le htb hw2.size
 have SP:=zh (R1.out.bbelow hw2)
 have SQ:=zh (R2.out.bbelow hw2)
 have SL3:=zh (R3.out.bbelow hw2)
 have HX1:=zh (HX.out.below wrR_stays hw2)
 have HY1:=zh (HY.out.below wrR_stays hw2)
 have HT2:=zh (HTs.out.below tenR_stays hw2)
 have Hw2:=zh hw2
 clear hw2 b0 b1 b2 k0
 obtain⟨w2,hw2⟩:∃ w2,w2=(w.alloc (.cells #[.int .i64 r.kind,.slice A r.name.length a,.slice B r.key.length b,.slice C r.last.length c,.slice D r.value.length d] 48)).drewN nq:=⟨_,rfl⟩
 rw[← hw2] at xb p0 t0 t1 t2 x0 x1 x2 x3 x4 hrb hGl htl SP SQ SL3 HX1 HY1 HT2 Hw2 ⊢
 clear hw2
 obtain⟨rb,hrbe⟩:∃ rb,rb=w.heap.size:=⟨_,rfl⟩
 rw[← hrbe] at xb x0 x1 x2 x3 x4 hrb ⊢
 have XB:=zh xb
 clear xb
 have Hrb:=zh hrbe
 clear hrbe
 go_region_held3 (fun w'=>w'.cell? ⟨G,6+s*2,none⟩=some (.pointer (some ⟨tb,0,none⟩))∧w'.cell? ⟨tb,0,none⟩=some (.int .i64 t.start)∧w'.cell? ⟨tb,1,none⟩=some (.slice X t.reads.length xn)∧w'.cell? ⟨tb,2,none⟩=some (.slice Y t.writes.length yn)∧w'.cell? ⟨rb,1,none⟩=some (.slice A r.name.length a)∧w'.cell? ⟨rb,2,none⟩=some (.slice B r.key.length b)∧w'.cell? ⟨rb,3,none⟩=some (.slice C r.last.length c))
  (first
   | go_keep
   | exact⟨(H3.out.cell hGl).trans p0,(H3.out.cell htl).trans t0,(H3.out.cell htl).trans t1,(H3.out.cell htl).trans t2,(H3.out.cell hrb).trans x1,(H3.out.cell hrb).trans x2,(H3.out.cell hrb).trans x3⟩)
  ((go_at_call 176;(with_reducible refine (scan_ok _ FA (aS g.commits t.start.toNat) fc X Y t xn yn A r.name a B r.key b C r.last c ?g0 ?g1 ?g2 ?g3 ?g4 ?g5 hxn hyn).mono ?_);(case g0=>(refine HT2.out.same tenR_stays ?_;exact SM));(case g1=>(refine HX1.out.same wrR_stays ?_;exact SM));(case g2=>(refine HY1.out.same wrR_stays ?_;exact SM));(case g3=>(refine SP.out.bsame ?_;exact SM));(case g4=>(refine SQ.out.bsame ?_;exact SM));(case g5=>(refine SL3.out.bsame ?_;exact SM));rw[Hsc.out];rintro e3 WF ⟨A3,n3,rfl,_,d1,hb3⟩;have H3:=zh (show Below w2.heap.size w2 WF from (Below.refl w2.heap.size w2).drew.next hb3 zn);have D1:=zh (show Ps (aB w2.heap.size) WF A3 sl from d1);clear d1))
 have hwF:Below w.heap.size w WF:=Hw2.out.next H3.out Hw2.out.size
 have hz2:w.heap.size≤w2.heap.size:=Hw2.out.size
 clear p0 t0 t1 t2 x0 x1 x2 x3 x4
 have HwF:=zh hwF
 by_cases he:se=0
 ·have c1:(se != 0)=false:=by simp[he]
  obtain⟨ge,nq2,hne⟩:∃ ge nq2,aE8 g s t r=(ge,nq2):=⟨_,_,rfl⟩
  have Hne:=zh hne
  have HrF:=zh (rqR_up (F:=F) Hr.out hwF)
  have yb:=(H3.out.block rb hrb).trans XB.out
  have y0:=aA yb 0
  have y1:=aA yb 1
  have y2:=aA yb 2
  have y3:=aA yb 3
  have y4:=aA yb 4
  simp only[List.getElem?_cons_zero,List.getElem?_cons_succ] at y0 y1 y2 y3 y4
  have hrl:rb<WF.heap.size:=Nat.lt_of_lt_of_le hrb H3.out.size
  clear yb
  cases nq2 with
  | false =>
   have Hv1:=zh (show aG8 g s t r=ge by rw[Hv.out,if_neg (by simpa using he),hne,if_pos rfl])
   have Hn1:=zh (show aV4 g s t r n=n+1 by unfold aV4;rw[hne];rfl)
   clear hne hwF he
   go_wp2_with (go_at_call 175;(with_reducible refine (aX4 (Fx F w WF) _ G g n s t r _ (H.out.below HwF.out) hs Ht.out HrF.out AO).mono ?_);rw[Hne.out,Hn1.out];rintro e5 w5 hp5;obtain⟨rfl,hp5⟩:=hp5)
   refine bodyPost_end (v:=.tuple #[]) (by simp[results,Tryz.results121,go_sem]) rfl ?_
   rw[Hv1.out]
   exact aO.from H.out HwF.out ⟨rfl,hp5⟩
  | true =>
   have Hv1:=zh (show aG8 g s t r=ge.say { rp0 with session:=s,turn:=t.start,pairs:=sl } by rw[Hv.out,if_neg (by simpa using he),hne,if_neg ZH2])
   have Hn1:=zh (show aV4 g s t r n=n by unfold aV4;rw[hne];rfl)
   obtain⟨x5,hx5,hs5⟩:=cI1 (g:=g) H.out.inv.sess hs hne
   have Hv9:=zh (show Ps (Fx F w WF) WF A3 sl from D1.out.less pairR_stays fun b hb h=>.inr ⟨Nat.le_trans hz2 h,hb⟩)
   clear hne hwF he
   go_wp2_with (first
    | (go_at_call 175;(with_reducible refine (aX4 (Fx F w WF) _ G g n s t r _ (H.out.below HwF.out) hs Ht.out HrF.out AO).mono ?_);rw[Hne.out,Hn1.out];rintro e5 w5 hp5;obtain⟨rfl,hq5,hsm5,hb5⟩:=hp5;obtain⟨tb5,p0,t0,htl',hGl',_⟩:=hq5.with_txn hs hx5;rw[hs5] at t0;have Hv5:=zh (Hv9.out.same pairR_stays hsm5);have Hq5:=zh hq5;have Hs5:=zh hsm5;have Hb5:=zh hb5;clear hq5 hsm5 hb5)
    | (go_at_call 119;(with_reducible refine (bG5 (Fx F w WF) _ G ge n { rp0 with session:=s,turn:=t.start,pairs:=sl } _ Hq5.out (rp_scan (s:Int) t.start Hv5.out) AO).mono ?_);rintro e6 w6 hp5;obtain⟨rfl,hp5⟩:=hp5))
   refine bodyPost_end (v:=.tuple #[]) (by simp[results,Tryz.results121,go_sem]) rfl ?_
   rw[Hv1.out]
   exact aO.from H.out HwF.out (aO.then (v1:=.bool true) ⟨rfl,Hq5.out,Hs5.out,Hb5.out⟩ ⟨rfl,hp5⟩)
 ·have c1:(se != 0)=true:=by simpa using he
  have Hv1:=zh (show aG8 g s t r=g.say (aE4 s se) by rw[Hv.out,if_pos he])
  clear he hwF
  go_wp2_with (go_at_call 117;(with_reducible refine (aF2 (Fx F w WF) _ G g n s se (H.out.below HwF.out) AO).mono ?_);rintro e4 w4 hp5;obtain⟨rfl,hp5⟩:=hp5)
  refine bodyPost_end (v:=.tuple #[]) (by simp[results,Tryz.results121,go_sem]) rfl ?_
  rw[Hv1.out]
  exact aO.from H.out HwF.out ⟨rfl,hp5⟩
end Go.Proofs.YtablgnacmpcfeaaGreatDoor
