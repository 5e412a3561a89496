/- SrvU: Walk: the server's ask, given work's contract. Walk: the server's crash. The conditions of each are in its words. -/
import Derived.Test.YtablgnacmpcfeaaGreatDoorKSrvT
import Derived.Test.YtablgnacmpcfeaaGreatDoorKSrvR
import Derived.Test.YtablgnacmpcfeaaGreatDoorKWireDecK
import Derived.Test.YtablgnacmpcfeaaGreatDoorKSrvP
import Derived.Test.YtablgnacmpcfeaaGreatDoorKTapeR
import Derived.Test.YtablgnacmpcfeaaGreatDoorKTapeK
namespace Go.Proofs.YtablgnacmpcfeaaGreatDoor
open Go.RowKit
set_option linter.unusedVariables false
set_option linter.unusedSimpArgs false
set_option maxRecDepth 100000
set_option maxHeartbeats 8000000
def WorkSaid:Prop:=∀ (F:Nat→Prop) (w:World) (G:Nat) (g:Eng) (n:Nat) (s:Nat) (t:Tx) (r:Rq) (cs:List Value),Srv F w G g n→s<8→(g.at s).txn=some t→RqR F w cs r→n<100000 →
  Calls Tryz.prog 121 #[.pointer (some ⟨G,0,none⟩),.int .i64 (s:Int),.pointer (some ⟨G,6+s*2,none⟩),.agg cs.toArray] w (aO F w G (aG8 g s t r) (n+1) (.tuple #[]))
theorem cW7 {b:List UInt8} {r:Rq} (h:aM2 b=(r,0)):aQ r=0:=by
 unfold aM2 at h
 split at h
 ·cases h
 ·split at h
  ·cases h
  ·split at h
   ·cases h
   ·unfold aK7 at h
    split at h
    ·cases h
    ·split at h
     ·cases h
     ·split at h
      ·rename_i h1
       obtain⟨rfl,h2⟩:=Prod.mk.inj h
       exact absurd h2 h1
      ·rename_i h1
       obtain⟨rfl,_⟩:=Prod.mk.inj h
       exact Decidable.not_not.1 h1
theorem cI3 {F:Nat→Prop} {w WF:World} {G n s:Nat} {g:Eng} {m:Mem} (H:Srv F w G g n) (Hm:aX F w G g g.forests m) (hs:s<8) (hwF:Below w.heap.size w WF):Srv F (WF.setCell ⟨G,6+s*2,none⟩ (.pointer none)) G (g.txn s none) n :=
 (aV3 H Hm hs hwF (.tuple #[])).2.1
theorem rp_turnH {S:Nat→Prop} {w:World} (s:Nat) (t:Int):RpR S w [.int .i64 (s:Int),.int .i64 0,.int .i64 t,.bool false,.slice none 0 0,.slice none 0 0,.slice none 0 0,.bool false,.slice none 0 0,.slice none 0 0,.slice none 0 0,.bool false,.slice none 0 0,.slice none 0 0,.slice none 0 0] (bC5 s t):=bL8 s 0 t
theorem new_end {F:Nat→Prop} {w WF:World} {G n s nb:Nat} {g:Eng} {m:Mem} (H:Srv F w G g n) (Hm:aX F w G g g.forests m) (hs:s<8) (hwF:Below w.heap.size w WF) (hlo:w.heap.size≤nb) (hbox:WF.heap[nb]?=some (.cells #[.int .i64 (g.synced:Int),.slice none 0 0,.slice none 0 0] 98 (0,0))) (v:Value) :
  aO F w G (g.txn s (some ⟨g.synced,[],[]⟩)) n v (.returned v) (WF.setCell ⟨G,6+s*2,none⟩ (.pointer (some ⟨nb,0,none⟩))) :=
 cB8 (x:=⟨g.synced,[],[]⟩) (A:=none) (B:=none) H Hm hs hwF hlo hbox zn zn SL.nil SL.nil ⟨aQ4.2 ⟨⟨by show (0:Int)≤(g.synced:Int);omega,by have:=H.inv.many;have:=H.inv.holds.few;show (g.synced:Int)≤1048576;omega⟩,by simp,by simp,fun i h=>by simp at h,fun i h=>by simp at h⟩,Int.le_refl _⟩ zn v
theorem rq_at {F:Nat→Prop} {w w1 w2:World} {r:Rq} {A B C D:Option Addr} {a b c d:Nat} (s1:Bs (aB w.heap.size) w1 A r.name) (s2:Bs (aB w.heap.size) w1 B r.key) (s3:Bs (aB w.heap.size) w1 C r.last) (s4:Bs (aB w.heap.size) w1 D r.value)
  (l1:r.name.length≤big) (l2:r.key.length≤big) (l3:r.last.length≤big) (l4:r.value.length≤big) (hb:Below w1.heap.size w1 w2) :
  RqR (Fx F w w2) w2 [.int .i64 r.kind,.slice A r.name.length a,.slice B r.key.length b,.slice C r.last.length c,.slice D r.value.length d] r :=
 ⟨A,a,B,b,C,c,D,d,rfl,cH9 (s1.bbelow hb),cH9 (s2.bbelow hb),cH9 (s3.bbelow hb),cH9 (s4.bbelow hb),l1,l2,l3,l4⟩
theorem cW8 (hW:WorkSaid) (F:Nat→Prop) (w:World) (G:Nat) (g:Eng) (n:Nat) (s:Nat) (A:Option Addr) (d:List UInt8) (c:Nat) (h:Srv F w G g n) (hs:s<8) (hd:Bs F w A d) (hc:d.length≤c) (hn:n<100000) :
  Calls Tryz.prog 72 #[.pointer (some ⟨G,0,none⟩),.int .i64 (s:Int),.slice A d.length c] w (aO F w G (aS0 g s d) (n+1) (.tuple #[])):=by
 unfold WorkSaid at hW
 obtain⟨m,hm⟩:=h.eng
 have c0:w.cell? ⟨G,0,none⟩=some (.bool g.up):=(hm.cell 0).trans hm.cells.up
 have hG:=hm.lt
 have H:=zh h
 have Hm:=zh hm
 have Hd:=zh hd.bz
 have hs0:(0:Int)≤(s:Int):=by omega
 have hs1:(s:Int)<8:=by omega
 have hw:=Hm.out.cells.wt s hs
 rw[← Hm.out.cell] at hw
 clear h hm hd
 cases hup:g.up with
 | false =>
  rw[hup] at c0
  have Hv:=zh (show aS0 g s d=g.say (aE4 s 13) by unfold aS0;rw[if_pos hup])
  clear hup
  go_enter Tryz.func72,Tryz.ntmps72
  go_wp2_with (go_at_call 117;(with_reducible refine (aF2 F _ G g n s 13 H.out AO).mono ?_);rintro e4 w4 hp5;obtain⟨rfl,hp5⟩:=hp5)
  refine bodyPost_end (v:=.tuple #[]) (by simp[results,Tryz.results72,go_sem]) rfl ?_
  rw[Hv.out]
  exact⟨rfl,hp5⟩
 | true =>
  rw[hup] at c0
  obtain⟨r,e,hdec⟩:∃ r e,aM2 d=(r,e):=⟨_,_,rfl⟩
  have Hdec:=zh hdec
  by_cases he:e=0
  ·subst he
   obtain⟨_,_,hsm⟩:=cH8 (cW7 hdec)
   have l1:r.name.length≤big:=by have:=hsm 0 AO;unfold big;exact Nat.le_of_lt (Nat.lt_of_lt_of_le this ZD9)
   have l2:r.key.length≤big:=by have:=hsm 1 AO;unfold big;exact Nat.le_of_lt (Nat.lt_of_lt_of_le this ZD9)
   have l3:r.last.length≤big:=by have:=hsm 2 AO;unfold big;exact Nat.le_of_lt (Nat.lt_of_lt_of_le this ZD9)
   have l4:r.value.length≤big:=by have:=hsm 3 AO;unfold big;exact Nat.le_of_lt (Nat.lt_of_lt_of_le this ZD9)
   have Ha:=zh (show aS0 g s d=aH3 g s r by unfold aS0;rw[if_neg (by simp[hup]),hdec,if_neg ZH2])
   clear hup hdec hsm
   by_cases hk8:r.kind=8
   ·have b8:(r.kind==8)=true:=by simpa using hk8
    have Hv:=zh (show aS0 g s d=g.say (bS1 g s r) by rw[Ha.out];unfold aH3;rw[if_pos hk8])
    clear hk8
    go_enter Tryz.func72,Tryz.ntmps72
    go_wp2_with (first
     | (go_at_call 23;(with_reducible refine (aE7 _ ?hT A d c ?hd hc).mono ?_);(case hT=>exact H.out.env.has);(case hd=>exact Hd.out);rw[Hdec.out];rintro e1 w1 ⟨A1,a1,B1,b1,C1,c1,D1,d1,rfl,s1,s2,s3,s4,hb1⟩)
     | (go_at_call 118;(with_reducible refine (cI2 _ _ G g n s r [.int .i64 r.kind,.slice A1 r.name.length a1,.slice B1 r.key.length b1,.slice C1 r.last.length c1,.slice D1 r.value.length d1] (H.out.below (hb1.alloc hb1.size _)) (rq_at s1 s2 s3 s4 l1 l2 l3 l4 ((Below.refl w1.heap.size w1).alloc zn _)) hn).mono ?_);rintro e4 w4 hp5;obtain⟨rfl,hp5⟩:=hp5))
    refine bodyPost_end (v:=.tuple #[]) (by simp[results,Tryz.results72,go_sem]) rfl ?_
    rw[Hv.out]
    exact aO.from H.out (hb1.alloc hb1.size _) ⟨rfl,hp5⟩
   ·have b8:(r.kind==8)=false:=by simpa using hk8
    cases hwt:(g.at s).waits with
    | true =>
     rw[hwt] at hw
     have Hv:=zh (show aS0 g s d=g.say (aE4 s 6) by rw[Ha.out];unfold aH3;rw[if_neg hk8,if_pos (.inl hwt)])
     clear hk8 hwt
     go_enter Tryz.func72,Tryz.ntmps72
     go_wp2_with (first
      | (go_at_call 23;(with_reducible refine (aE7 _ ?hT A d c ?hd hc).mono ?_);(case hT=>exact H.out.env.has);(case hd=>exact Hd.out);rw[Hdec.out];rintro e1 w1 ⟨A1,a1,B1,b1,C1,c1,D1,d1,rfl,s1,s2,s3,s4,hb1⟩;have hw1:=((hb1.alloc hb1.size (.cells #[.int .i64 r.kind,.slice A1 r.name.length a1,.slice B1 r.key.length b1,.slice C1 r.last.length c1,.slice D1 r.value.length d1] 48)).cell (p:=⟨G,6+s*2+1,none⟩) hG).trans hw)
      | (go_at_call 117;(with_reducible refine (aF2 _ _ G g n s 6 (H.out.below (below_drewN (hb1.alloc hb1.size _) _)) AO).mono ?_);rintro e4 w4 hp5;obtain⟨rfl,hp5⟩:=hp5))
     go_quiet (fail)
     go_wp2_with (go_at_call 117;(with_reducible refine (aF2 _ _ G g n s 6 (H.out.below (below_drewN (hb1.alloc hb1.size _) _)) AO).mono ?_);rintro e4 w4 hp5;obtain⟨rfl,hp5⟩:=hp5)
     refine bodyPost_end (v:=.tuple #[]) (by simp[results,Tryz.results72,go_sem]) rfl ?_
     rw[Hv.out]
     refine aO.from H.out ?_ ⟨rfl,hp5⟩
     exact below_drewN (hb1.alloc hb1.size _) _
    | false =>
     rw[hwt] at hw
     cases htx:(g.at s).txn with
     | none =>
      have hp0:w.cell? ⟨G,6+s*2,none⟩=some (.pointer none):=by
       have h1:=Hm.out.rows.txs s hs
       rw[htx] at h1
       rw[Hm.out.cell,Hm.out.cells.px s hs,show m.px s=none from h1]
       rfl
      by_cases hk1:r.kind=1
      ·have b1:(r.kind==1)=true:=by simpa using hk1
       have hsy:w.cell? ⟨G,5,none⟩=some (.int .i64 (g.synced:Int)):=(Hm.out.cell 5).trans Hm.out.cells.syn
       have Hv:=zh (show aS0 g s d=(g.txn s (some ⟨g.synced,[],[]⟩)).say (bC5 s g.synced) by rw[Ha.out];unfold aH3;rw[if_neg hk8,if_neg (by simp[hwt,htx,hk1]),if_pos hk1])
       clear hk8 hwt htx hk1
       go_enter Tryz.func72,Tryz.ntmps72
       go_wp2_with (go_at_call 23;(with_reducible refine (aE7 _ ?hT A d c ?hd hc).mono ?_);(case hT=>exact H.out.env.has);(case hd=>exact Hd.out);rw[Hdec.out];rintro e1 w1 ⟨A1,a1,B1,b1,C1,c1,D1,d1,rfl,s1,s2,s3,s4,hb1⟩;have hw1:=((hb1.alloc hb1.size (.cells #[.int .i64 r.kind,.slice A1 r.name.length a1,.slice B1 r.key.length b1,.slice C1 r.last.length c1,.slice D1 r.value.length d1] 48)).cell (p:=⟨G,6+s*2+1,none⟩) hG).trans hw;have hp1:=((hb1.alloc hb1.size (.cells #[.int .i64 r.kind,.slice A1 r.name.length a1,.slice B1 r.key.length b1,.slice C1 r.last.length c1,.slice D1 r.value.length d1] 48)).cell (p:=⟨G,6+s*2,none⟩) hG).trans hp0;have z1:=(aX.below (F':=F) Hm.out (hb1.alloc hb1.size (.cells #[.int .i64 r.kind,.slice A1 r.name.length a1,.slice B1 r.key.length b1,.slice C1 r.last.length c1,.slice D1 r.value.length d1] 48)) (fun b hb=>.inl hb)).frozen (6+s*2);have y0:=aA (cs:=[.int .i64 r.kind,.slice A1 r.name.length a1,.slice B1 r.key.length b1,.slice C1 r.last.length c1,.slice D1 r.value.length d1]) (heap_alloc_new w1 (.cells #[.int .i64 r.kind,.slice A1 r.name.length a1,.slice B1 r.key.length b1,.slice C1 r.last.length c1,.slice D1 r.value.length d1] 48)) 0;simp only[List.getElem?_cons_zero] at y0;have ys:=((hb1.alloc hb1.size (.cells #[.int .i64 r.kind,.slice A1 r.name.length a1,.slice B1 r.key.length b1,.slice C1 r.last.length c1,.slice D1 r.value.length d1] 48)).cell (p:=⟨G,5,none⟩) hG).trans hsy)
       go_quiet (fail)
       have hbN:Below w.heap.size w (((w1.alloc (.cells #[.int .i64 r.kind,.slice A1 r.name.length a1,.slice B1 r.key.length b1,.slice C1 r.last.length c1,.slice D1 r.value.length d1] 48)).drewN nq).alloc (.cells #[.int .i64 (g.synced:Int),.slice none 0 0,.slice none 0 0] 98)):=(below_drewN (hb1.alloc hb1.size _) _).alloc (Nat.le_trans hb1.size ZH2) _
       have xp:=(hbN.cell (p:=⟨G,6+s*2,none⟩) hG).trans hp0
       have xs:=(hbN.cell (p:=⟨G,5,none⟩) hG).trans hsy
       have xf:=(aX.below (F':=F) Hm.out hbN (fun b hb=>.inl hb)).frozen (6+s*2)
       have hN:=new_end (nb:=w1.heap.size+1) H.out Hm.out hs hbN (by have:=hb1.size;omega) (by rw[show w1.heap.size+1=((w1.alloc (.cells #[.int .i64 r.kind,.slice A1 r.name.length a1,.slice B1 r.key.length b1,.slice C1 r.last.length c1,.slice D1 r.value.length d1] 48)).drewN nq).heap.size by simp];exact aK _ _ _) (.tuple #[])
       have HN:=zh hN.srv
       have HP:=zh hN
       clear hN
       have n5:¬ (6+s*2=5):=by omega
       have n5':¬ (5=6+s*2):=by omega
       go_wp2_with (go_at_call 119;(with_reducible refine (bG5 F _ G (g.txn s (some ⟨g.synced,[],[]⟩)) n (bC5 s g.synced) _ HN.out (rp_turnH s g.synced) AO).mono ?_);rintro e4 w4 hp5;obtain⟨rfl,hp5⟩:=hp5)
       refine bodyPost_end (v:=.tuple #[]) (by simp[results,Tryz.results72,go_sem]) rfl ?_
       rw[Hv.out]
       exact aO.then HP.out ⟨rfl,hp5⟩
      ·have b1:(r.kind==1)=false:=by simpa using hk1
       have Hv:=zh (show aS0 g s d=g.say (aE4 s 6) by rw[Ha.out];unfold aH3;rw[if_neg hk8,if_pos (.inr (by simp[htx,hk1]))])
       clear hk8 hwt htx hk1
       go_enter Tryz.func72,Tryz.ntmps72
       go_wp2_with (first
        | (go_at_call 23;(with_reducible refine (aE7 _ ?hT A d c ?hd hc).mono ?_);(case hT=>exact H.out.env.has);(case hd=>exact Hd.out);rw[Hdec.out];rintro e1 w1 ⟨A1,a1,B1,b1,C1,c1,D1,d1,rfl,s1,s2,s3,s4,hb1⟩;have hw1:=((hb1.alloc hb1.size (.cells #[.int .i64 r.kind,.slice A1 r.name.length a1,.slice B1 r.key.length b1,.slice C1 r.last.length c1,.slice D1 r.value.length d1] 48)).cell (p:=⟨G,6+s*2+1,none⟩) hG).trans hw;have hp1:=((hb1.alloc hb1.size (.cells #[.int .i64 r.kind,.slice A1 r.name.length a1,.slice B1 r.key.length b1,.slice C1 r.last.length c1,.slice D1 r.value.length d1] 48)).cell (p:=⟨G,6+s*2,none⟩) hG).trans hp0;have z1:=(aX.below (F':=F) Hm.out (hb1.alloc hb1.size (.cells #[.int .i64 r.kind,.slice A1 r.name.length a1,.slice B1 r.key.length b1,.slice C1 r.last.length c1,.slice D1 r.value.length d1] 48)) (fun b hb=>.inl hb)).frozen (6+s*2);have y0:=aA (cs:=[.int .i64 r.kind,.slice A1 r.name.length a1,.slice B1 r.key.length b1,.slice C1 r.last.length c1,.slice D1 r.value.length d1]) (heap_alloc_new w1 (.cells #[.int .i64 r.kind,.slice A1 r.name.length a1,.slice B1 r.key.length b1,.slice C1 r.last.length c1,.slice D1 r.value.length d1] 48)) 0;simp only[List.getElem?_cons_zero] at y0)
        | (go_at_call 117;(with_reducible refine (aF2 _ _ G g n s 6 (H.out.below (below_drewN (hb1.alloc hb1.size _) _)) AO).mono ?_);rintro e4 w4 hp5;obtain⟨rfl,hp5⟩:=hp5))
       go_quiet (fail)
       go_wp2_with (go_at_call 117;(with_reducible refine (aF2 _ _ G g n s 6 (H.out.below (below_drewN (hb1.alloc hb1.size _) _)) AO).mono ?_);rintro e4 w4 hp5;obtain⟨rfl,hp5⟩:=hp5)
       refine bodyPost_end (v:=.tuple #[]) (by simp[results,Tryz.results72,go_sem]) rfl ?_
       rw[Hv.out]
       refine aO.from H.out ?_ ⟨rfl,hp5⟩
       exact below_drewN (hb1.alloc hb1.size _) _
     | some t =>
      obtain⟨tb,X,xn,Y,yn,k0,hfb,hbx,hxn,hyn,hX,hY⟩:=Hm.out.txn_at hs htx
      have ht0:=aA hbx 0
      simp only[List.getElem?_cons_zero] at ht0
      have htl:tb<w.heap.size:=(Array.getElem?_eq_some_iff.1 hbx).1
      have hsy:w.cell? ⟨G,5,none⟩=some (.int .i64 (g.synced:Int)):=(Hm.out.cell 5).trans Hm.out.cells.syn
      have hn9:(g.synced:Int)≤9223372036854775807:=by have:=H.out.inv.holds.few;have:=H.out.inv.many;omega
      by_cases hk1:r.kind=1
      ·have b1:(r.kind==1)=true:=by simpa using hk1
       have Hv:=zh (show aS0 g s d=g.say (aE4 s 6) by rw[Ha.out];unfold aH3;rw[if_neg hk8,if_pos (.inr (by simp[htx,hk1]))])
       clear hk8 hwt htx hk1
       go_enter Tryz.func72,Tryz.ntmps72
       go_wp2_with (first
        | (go_at_call 23;(with_reducible refine (aE7 _ ?hT A d c ?hd hc).mono ?_);(case hT=>exact H.out.env.has);(case hd=>exact Hd.out);rw[Hdec.out];rintro e1 w1 ⟨A1,a1,B1,b1,C1,c1,D1,d1,rfl,s1,s2,s3,s4,hb1⟩;have hw1:=((hb1.alloc hb1.size (.cells #[.int .i64 r.kind,.slice A1 r.name.length a1,.slice B1 r.key.length b1,.slice C1 r.last.length c1,.slice D1 r.value.length d1] 48)).cell (p:=⟨G,6+s*2+1,none⟩) hG).trans hw;have hp1:=((hb1.alloc hb1.size (.cells #[.int .i64 r.kind,.slice A1 r.name.length a1,.slice B1 r.key.length b1,.slice C1 r.last.length c1,.slice D1 r.value.length d1] 48)).cell (p:=⟨G,6+s*2,none⟩) hG).trans k0;have z1:=(aX.below (F':=F) Hm.out (hb1.alloc hb1.size (.cells #[.int .i64 r.kind,.slice A1 r.name.length a1,.slice B1 r.key.length b1,.slice C1 r.last.length c1,.slice D1 r.value.length d1] 48)) (fun b hb=>.inl hb)).frozen (6+s*2);have y0:=aA (cs:=[.int .i64 r.kind,.slice A1 r.name.length a1,.slice B1 r.key.length b1,.slice C1 r.last.length c1,.slice D1 r.value.length d1]) (heap_alloc_new w1 (.cells #[.int .i64 r.kind,.slice A1 r.name.length a1,.slice B1 r.key.length b1,.slice C1 r.last.length c1,.slice D1 r.value.length d1] 48)) 0;simp only[List.getElem?_cons_zero] at y0)
        | (go_at_call 117;(with_reducible refine (aF2 _ _ G g n s 6 (H.out.below (below_drewN (hb1.alloc hb1.size _) _)) AO).mono ?_);rintro e4 w4 hp5;obtain⟨rfl,hp5⟩:=hp5))
       go_quiet (fail)
       go_wp2_with (go_at_call 117;(with_reducible refine (aF2 _ _ G g n s 6 (H.out.below (below_drewN (hb1.alloc hb1.size _) _)) AO).mono ?_);rintro e4 w4 hp5;obtain⟨rfl,hp5⟩:=hp5)
       refine bodyPost_end (v:=.tuple #[]) (by simp[results,Tryz.results72,go_sem]) rfl ?_
       rw[Hv.out]
       refine aO.from H.out ?_ ⟨rfl,hp5⟩
       exact below_drewN (hb1.alloc hb1.size _) _
      ·have b1:(r.kind==1)=false:=by simpa using hk1
       by_cases hk7:r.kind=7
       ·have b7:(r.kind==7)=true:=by simpa using hk7
        have Hv:=zh (show aS0 g s d=(g.txn s none).say (aE4 s 0) by rw[Ha.out];unfold aH3;rw[if_neg hk8,if_neg (by simp[hwt,htx,hk1]),if_neg hk1,if_pos hk7])
        clear hk8 hwt htx hk1 hk7
        go_enter Tryz.func72,Tryz.ntmps72
        go_wp2_with (go_at_call 23;(with_reducible refine (aE7 _ ?hT A d c ?hd hc).mono ?_);(case hT=>exact H.out.env.has);(case hd=>exact Hd.out);rw[Hdec.out];rintro e1 w1 ⟨A1,a1,B1,b1,C1,c1,D1,d1,rfl,s1,s2,s3,s4,hb1⟩;have hw1:=((hb1.alloc hb1.size (.cells #[.int .i64 r.kind,.slice A1 r.name.length a1,.slice B1 r.key.length b1,.slice C1 r.last.length c1,.slice D1 r.value.length d1] 48)).cell (p:=⟨G,6+s*2+1,none⟩) hG).trans hw;have hp1:=((hb1.alloc hb1.size (.cells #[.int .i64 r.kind,.slice A1 r.name.length a1,.slice B1 r.key.length b1,.slice C1 r.last.length c1,.slice D1 r.value.length d1] 48)).cell (p:=⟨G,6+s*2,none⟩) hG).trans k0;have z1:=(aX.below (F':=F) Hm.out (hb1.alloc hb1.size (.cells #[.int .i64 r.kind,.slice A1 r.name.length a1,.slice B1 r.key.length b1,.slice C1 r.last.length c1,.slice D1 r.value.length d1] 48)) (fun b hb=>.inl hb)).frozen (6+s*2);have y0:=aA (cs:=[.int .i64 r.kind,.slice A1 r.name.length a1,.slice B1 r.key.length b1,.slice C1 r.last.length c1,.slice D1 r.value.length d1]) (heap_alloc_new w1 (.cells #[.int .i64 r.kind,.slice A1 r.name.length a1,.slice B1 r.key.length b1,.slice C1 r.last.length c1,.slice D1 r.value.length d1] 48)) 0;simp only[List.getElem?_cons_zero] at y0)
        go_quiet (fail)
        go_wp2_with (go_at_call 117;(with_reducible refine (aF2 F _ G (g.txn s none) n s 0 (cI3 H.out Hm.out hs (below_drewN (hb1.alloc hb1.size _) _)) AO).mono ?_);rintro e4 w4 hp5;obtain⟨rfl,hp5⟩:=hp5)
        refine bodyPost_end (v:=.tuple #[]) (by simp[results,Tryz.results72,go_sem]) rfl ?_
        rw[Hv.out]
        refine aO.then (aV3 H.out Hm.out hs ?_ (.tuple #[])) ⟨rfl,hp5⟩
        exact below_drewN (hb1.alloc hb1.size _) _
       ·have b7:(r.kind==7)=false:=by simpa using hk7
        cases hk:bS0 g.synced t.start with
        | false =>
         have Hv:=zh (show aS0 g s d=(g.txn s none).say (aE4 s 10) by rw[Ha.out];unfold aH3;rw[if_neg hk8,if_neg (by simp[hwt,htx,hk1]),if_neg hk1,if_neg hk7,if_pos (by rw[htx];exact hk)])
         have HK:∀ (w0:World) (n0 x0:Nat),Calls Tryz.prog 120 #[.int .i64 (g.synced:Int),.int .i64 t.start] (w0.drewN (n0+x0)) fun e w2=>e=.returned (.bool false)∧∃ m,w2=w0.drewN (n0+m):=fun w0 n0 x0=>by have h0:=cS4 (w0.drewN (n0+x0)) (g.synced:Int) t.start hn9;rw[hk] at h0;exact h0.mono fun e w2 h=>⟨h.1,x0,h.2.symm⟩
         clear hk8 hwt htx hk1 hk7 hk
         go_enter Tryz.func72,Tryz.ntmps72
         go_wp2_with (go_at_call 23;(with_reducible refine (aE7 _ ?hT A d c ?hd hc).mono ?_);(case hT=>exact H.out.env.has);(case hd=>exact Hd.out);rw[Hdec.out];rintro e1 w1 ⟨A1,a1,B1,b1,C1,c1,D1,d1,rfl,s1,s2,s3,s4,hb1⟩;have hw1:=((hb1.alloc hb1.size (.cells #[.int .i64 r.kind,.slice A1 r.name.length a1,.slice B1 r.key.length b1,.slice C1 r.last.length c1,.slice D1 r.value.length d1] 48)).cell (p:=⟨G,6+s*2+1,none⟩) hG).trans hw;have hp1:=((hb1.alloc hb1.size (.cells #[.int .i64 r.kind,.slice A1 r.name.length a1,.slice B1 r.key.length b1,.slice C1 r.last.length c1,.slice D1 r.value.length d1] 48)).cell (p:=⟨G,6+s*2,none⟩) hG).trans k0;have z1:=(aX.below (F':=F) Hm.out (hb1.alloc hb1.size (.cells #[.int .i64 r.kind,.slice A1 r.name.length a1,.slice B1 r.key.length b1,.slice C1 r.last.length c1,.slice D1 r.value.length d1] 48)) (fun b hb=>.inl hb)).frozen (6+s*2);have y0:=aA (cs:=[.int .i64 r.kind,.slice A1 r.name.length a1,.slice B1 r.key.length b1,.slice C1 r.last.length c1,.slice D1 r.value.length d1]) (heap_alloc_new w1 (.cells #[.int .i64 r.kind,.slice A1 r.name.length a1,.slice B1 r.key.length b1,.slice C1 r.last.length c1,.slice D1 r.value.length d1] 48)) 0;simp only[List.getElem?_cons_zero] at y0;have ys:=((hb1.alloc hb1.size (.cells #[.int .i64 r.kind,.slice A1 r.name.length a1,.slice B1 r.key.length b1,.slice C1 r.last.length c1,.slice D1 r.value.length d1] 48)).cell (p:=⟨G,5,none⟩) hG).trans hsy;have yt:=((hb1.alloc hb1.size (.cells #[.int .i64 r.kind,.slice A1 r.name.length a1,.slice B1 r.key.length b1,.slice C1 r.last.length c1,.slice D1 r.value.length d1] 48)).cell (p:=⟨tb,0,none⟩) htl).trans ht0)
         go_quiet (fail)
         go_wp2
         go_quiet ((go_at_call 120;exact HK _ _ _))
         go_wp2_with (go_at_call 117;(with_reducible refine (aF2 F _ G (g.txn s none) n s 10 (cI3 H.out Hm.out hs (below_drewN (hb1.alloc hb1.size _) _)) AO).mono ?_);rintro e4 w4 hp5;obtain⟨rfl,hp5⟩:=hp5)
         refine bodyPost_end (v:=.tuple #[]) (by simp[results,Tryz.results72,go_sem]) rfl ?_
         rw[Hv.out]
         refine aO.then (aV3 H.out Hm.out hs ?_ (.tuple #[])) ⟨rfl,hp5⟩
         exact below_drewN (hb1.alloc hb1.size _) _
        | true =>
         have Hv:=zh (show aS0 g s d=aG8 g s t r by rw[Ha.out];unfold aH3;rw[if_neg hk8,if_neg (by simp[hwt,htx,hk1]),if_neg hk1,if_neg hk7,if_neg (by rw[htx];show ¬ bS0 _ t.start=false;rw[hk];decide),htx];rfl)
         have HK:∀ (w0:World) (n0 x0:Nat),Calls Tryz.prog 120 #[.int .i64 (g.synced:Int),.int .i64 t.start] (w0.drewN (n0+x0)) fun e w2=>e=.returned (.bool true)∧∃ m,w2=w0.drewN (n0+m):=fun w0 n0 x0=>by have h0:=cS4 (w0.drewN (n0+x0)) (g.synced:Int) t.start hn9;rw[hk] at h0;exact h0.mono fun e w2 h=>⟨h.1,x0,h.2.symm⟩
         have Htx:=zh htx
         clear hk8 hwt htx hk1 hk7 hk
         go_enter Tryz.func72,Tryz.ntmps72
         go_wp2_with (go_at_call 23;(with_reducible refine (aE7 _ ?hT A d c ?hd hc).mono ?_);(case hT=>exact H.out.env.has);(case hd=>exact Hd.out);rw[Hdec.out];rintro e1 w1 ⟨A1,a1,B1,b1,C1,c1,D1,d1,rfl,s1,s2,s3,s4,hb1⟩;have hw1:=((hb1.alloc hb1.size (.cells #[.int .i64 r.kind,.slice A1 r.name.length a1,.slice B1 r.key.length b1,.slice C1 r.last.length c1,.slice D1 r.value.length d1] 48)).cell (p:=⟨G,6+s*2+1,none⟩) hG).trans hw;have hp1:=((hb1.alloc hb1.size (.cells #[.int .i64 r.kind,.slice A1 r.name.length a1,.slice B1 r.key.length b1,.slice C1 r.last.length c1,.slice D1 r.value.length d1] 48)).cell (p:=⟨G,6+s*2,none⟩) hG).trans k0;have z1:=(aX.below (F':=F) Hm.out (hb1.alloc hb1.size (.cells #[.int .i64 r.kind,.slice A1 r.name.length a1,.slice B1 r.key.length b1,.slice C1 r.last.length c1,.slice D1 r.value.length d1] 48)) (fun b hb=>.inl hb)).frozen (6+s*2);have y0:=aA (cs:=[.int .i64 r.kind,.slice A1 r.name.length a1,.slice B1 r.key.length b1,.slice C1 r.last.length c1,.slice D1 r.value.length d1]) (heap_alloc_new w1 (.cells #[.int .i64 r.kind,.slice A1 r.name.length a1,.slice B1 r.key.length b1,.slice C1 r.last.length c1,.slice D1 r.value.length d1] 48)) 0;simp only[List.getElem?_cons_zero] at y0;have ys:=((hb1.alloc hb1.size (.cells #[.int .i64 r.kind,.slice A1 r.name.length a1,.slice B1 r.key.length b1,.slice C1 r.last.length c1,.slice D1 r.value.length d1] 48)).cell (p:=⟨G,5,none⟩) hG).trans hsy;have yt:=((hb1.alloc hb1.size (.cells #[.int .i64 r.kind,.slice A1 r.name.length a1,.slice B1 r.key.length b1,.slice C1 r.last.length c1,.slice D1 r.value.length d1] 48)).cell (p:=⟨tb,0,none⟩) htl).trans ht0)
         go_quiet (fail)
         go_wp2
         go_quiet ((go_at_call 120;exact HK _ _ _))
         go_wp2_with (go_at_call 121;(with_reducible refine (hW _ _ G g n s t r [.int .i64 r.kind,.slice A1 r.name.length a1,.slice B1 r.key.length b1,.slice C1 r.last.length c1,.slice D1 r.value.length d1] (H.out.below (below_drewN (hb1.alloc hb1.size _) _)) hs Htx.out (rq_at s1 s2 s3 s4 l1 l2 l3 l4 (below_drewN ((Below.refl w1.heap.size w1).alloc zn _) _)) hn).mono ?_);rintro e4 w4 hp5;obtain⟨rfl,hp5⟩:=hp5)
         refine bodyPost_end (v:=.tuple #[]) (by simp[results,Tryz.results72,go_sem]) rfl ?_
         rw[Hv.out]
         refine aO.from H.out ?_ ⟨rfl,hp5⟩
         exact below_drewN (hb1.alloc hb1.size _) _
  ·have b1:(e != 0)=true:=by simpa using he
   have Hv:=zh (show aS0 g s d=g.say (aE4 s e) by unfold aS0;rw[if_neg (by simp[hup]),hdec,if_pos he])
   clear hup he hdec
   go_enter Tryz.func72,Tryz.ntmps72
   go_wp2_with (first
    | (go_at_call 23;(with_reducible refine (aE7 _ ?hT A d c ?hd hc).mono ?_);(case hT=>exact H.out.env.has);(case hd=>exact Hd.out);rw[Hdec.out];rintro e1 w1 ⟨A1,a1,B1,b1,C1,c1,D1,d1,rfl,s1,s2,s3,s4,hb1⟩)
    | (go_at_call 117;(with_reducible refine (aF2 _ _ G g n s e (H.out.below (hb1.alloc hb1.size _)) AO).mono ?_);rintro e4 w4 hp5;obtain⟨rfl,hp5⟩:=hp5))
   refine bodyPost_end (v:=.tuple #[]) (by simp[results,Tryz.results72,go_sem]) rfl ?_
   rw[Hv.out]
   exact aO.from H.out (hb1.alloc hb1.size _) ⟨rfl,hp5⟩
theorem Own.prefix {α:Type} {size:Nat} {R:(Nat→Prop)→World→List Value→α→Prop} {S:Nat→Prop} {w:World} {base:Nat} {e:TypeId} {a:Addr} {n c:Nat} {l:List α} (h:Own size R S w base e (.slice (some a) n c) l) {k:Nat} (hk:k≤l.length):Own size R S w base e (.slice (some a) k c) (l.take k):=by
 obtain⟨xs,h1,h2⟩:=h
 have hkl:k*size≤l.length*size:=Nat.mul_le_mul_right _ hk
 have hx:=h1.1
 have hlt:(l.take k).length=k:=by rw[List.length_take];omega
 rcases h1.2 with ⟨hv,_⟩|⟨g,cap,cur,hv,hb,hh,hcap,hmax,hcur,htk⟩
 ·cases hv
 ·simp only[Value.slice.injEq] at hv
  obtain⟨ha,hn,hc⟩:=hv
  refine⟨xs.take (k*size),⟨by rw[List.length_take,hlt];omega,.inr ⟨g,cap,cur,by rw[ha,hc,hlt],hb,hh,by rw[hlt];omega,hmax,hcur,?_⟩⟩,fun i hi=>?_⟩
  ·rw[← htk,List.take_take,hlt]
   congr 1
   omega
  ·rw[hlt] at hi
   have hi1:(i+1)*size≤k*size:=Nat.mul_le_mul_right _ hi
   rw[Nat.add_mul,Nat.one_mul] at hi1
   have e1:((xs.take (k*size)).drop (i*size)).take size=(xs.drop (i*size)).take size:=by
    rw[List.drop_take,List.take_take]
    congr 1
    omega
   rw[e1,List.getElem_take]
   exact h2 i AO
def wipe1 (g:Eng) (s:Nat):Eng:=(g.txn s none).put s ⟨((g.txn s none).at s).txn,false⟩
theorem wipe1_eq {g:Eng} {s:Nat} (hs:s<g.sess.length):wipe1 g s=g.put s ss0:=by
 have h1:((g.txn s none).at s).txn=none:=by
  unfold Eng.txn
  rw[aH6 g s s _ hs,if_pos rfl]
 unfold wipe1
 rw[h1]
 unfold Eng.put Eng.txn Eng.put ss0
 simp only[List.set_set]
theorem aX.wipe {F:Nat→Prop} {w:World} {G:Nat} {g:Eng} {fs:List (List Tn)} {m:Mem} (h:aX F w G g fs m) (hl:g.sess.length=8) {s:Nat} (hs:s<8):∃ m',aX F ((w.setCell ⟨G,6+s*2,none⟩ (.pointer none)).setCell ⟨G,6+s*2+1,none⟩ (.bool false)) G (g.put s ss0) fs m':=by
 rw[← wipe1_eq AO]
 exact⟨_,(h.setTxn hl hs none none rfl).setWaits (by unfold Eng.txn Eng.put;simpa using hl) hs false⟩
theorem wiped {l:List Ss} (h:l.length=8):(((((((l.set 0 ss0).set 1 ss0).set 2 ss0).set 3 ss0).set 4 ss0).set 5 ss0).set 6 ss0).set 7 ss0=List.replicate 8 ss0:=by
 match l,h with
 | [_,_,_,_,_,_,_,_],_=>rfl
theorem cW9 {g:Eng} (h:g.sess.length=8):(((((((g.put 0 ss0).put 1 ss0).put 2 ss0).put 3 ss0).put 4 ss0).put 5 ss0).put 6 ss0).put 7 ss0={ g with sess:=List.replicate 8 ss0 }:=by
 obtain⟨up,tape,commits,synced,sess,waiting,replies⟩:=g
 simp only[Eng.put]
 rw[wiped h]
theorem aT2 (g:Eng) (s:Nat) (x:Ss):(g.put s x).sess.length=g.sess.length:=by unfold Eng.put;simp
theorem aX.wipe8 {F:Nat→Prop} {w:World} {G:Nat} {g:Eng} {fs:List (List Tn)} {m:Mem} (hk0:aX F w G g fs m) (hl:g.sess.length=8):∃ m',aX F ((((((((((((((((w.setCell ⟨G,6,none⟩ (.pointer none)).setCell ⟨G,7,none⟩ (.bool false)).setCell ⟨G,8,none⟩ (.pointer none)).setCell ⟨G,9,none⟩ (.bool false)).setCell ⟨G,10,none⟩ (.pointer none)).setCell ⟨G,11,none⟩ (.bool false)).setCell ⟨G,12,none⟩ (.pointer none)).setCell ⟨G,13,none⟩ (.bool false)).setCell ⟨G,14,none⟩ (.pointer none)).setCell ⟨G,15,none⟩ (.bool false)).setCell ⟨G,16,none⟩ (.pointer none)).setCell ⟨G,17,none⟩ (.bool false)).setCell ⟨G,18,none⟩ (.pointer none)).setCell ⟨G,19,none⟩ (.bool false)).setCell ⟨G,20,none⟩ (.pointer none)).setCell ⟨G,21,none⟩ (.bool false)) G { g with sess:=List.replicate 8 ss0 } fs m':=by
 obtain⟨k1,hk1⟩:=hk0.wipe (s:=0) ZF1 AO
 obtain⟨k2,hk2⟩:=hk1.wipe (s:=1) ZF1 AO
 obtain⟨k3,hk3⟩:=hk2.wipe (s:=2) ZF1 AO
 obtain⟨k4,hk4⟩:=hk3.wipe (s:=3) ZF1 AO
 obtain⟨k5,hk5⟩:=hk4.wipe (s:=4) ZF1 AO
 obtain⟨k6,hk6⟩:=hk5.wipe (s:=5) ZF1 AO
 obtain⟨k7,hk7⟩:=hk6.wipe (s:=6) ZF1 AO
 obtain⟨k8,hk8⟩:=hk7.wipe (s:=7) ZF1 AO
 rw[cW9 hl] at hk8
 exact⟨k8,hk8⟩
theorem cI4 (l:List Cm) {j k:Nat} (hk:k≤j):aS (l.take j) k=aS l k:=by
 unfold aS
 rw[List.take_take]
 congr 2
 omega
theorem cB9 (l:List Cm) {j:Nat} (hj:j≤l.length):(List.range ((l.take j).length+1)).map (aS (l.take j))=((List.range (l.length+1)).map (aS l)).take (j+1):=by
 rw[List.length_take,Nat.min_eq_left hj,← List.map_take]
 have:(List.range (l.length+1)).take (j+1)=List.range (j+1):=by
  rw[List.take_range]
  congr 1
  omega
 rw[this]
 refine List.map_congr_left fun k hk=>?_
 rw[List.mem_range] at hk
 exact cI4 l AO
theorem own_new {w w1:World} {G:Nat} {m:Mem} {k:Nat} {v:Value} {l:List Cm} (hG:G<w.heap.size) (hlt:∀ j b,j<4→(m.v j).ownBlock=some b→b<w.heap.size) (h:Own 2 CmR (aB w.heap.size) w1 w.heap.size 177 v l):Own 2 CmR ((m.row 0 v k).fix G) w1 0 177 v l:=by
 obtain⟨xs,h1,h2⟩:=h
 refine⟨xs,⟨h1.1,?_⟩,fun j hj=>cmR_stays.less _ _ _ _ _ (fun b hb hs=>⟨⟨?_,fun n hn=>?_⟩,hs.2⟩) (h2 j hj)⟩
 ·rcases h1.2 with hn|⟨g,cap,cur,hv,hb,hh,rest⟩
  ·exact .inl hn
  ·exact .inr ⟨g,cap,cur,hv,Nat.zero_le _,hh,rest⟩
 ·have h3:w.heap.size≤b:=hs.1
  omega
 ·show (if n=0 then v else m.v n).ownBlock≠some b
  by_cases e:n=0
  ·rw[if_pos e];exact hs.2
  ·rw[if_neg e]
   intro h9
   have:=hlt n b hn h9
   have h3:w.heap.size≤b:=hs.1
   omega
theorem fix_new {w:World} {G b:Nat} {m:Mem} {k:Nat} {v:Value} (hG:G<w.heap.size) (hlt:∀ j b,j<4→(m.v j).ownBlock=some b→b<w.heap.size) (hb:aB w.heap.size b) (hv:v.ownBlock≠some b):(m.row 0 v k).fix G b:=by
 have h3:w.heap.size≤b:=hb
 refine⟨AO,fun n hn=>?_⟩
 show (if n=0 then v else m.v n).ownBlock≠some b
 by_cases e:n=0
 ·rw[if_pos e];exact hv
 ·rw[if_neg e]
  intro h9
  have:=hlt n b hn h9
  omega
theorem aX.recovered {F:Nat→Prop} {w w1:World} {G:Nat} {g:Eng} {fs:List (List Tn)} {m:Mem} {v:Value} {l:List Cm} {B:Option Addr} {d:Nat} {tp:Tp} (h:aX F w G g fs m) (hlow:∀ b,F b→b<w.heap.size) (hb:Below w.heap.size w w1) (hown:Own 2 CmR (aB w.heap.size) w1 w.heap.size 177 v l) (hbs:Bs (fun b=>aB w.heap.size b∧v.ownBlock≠some b) w1 B tp.1) (hd:tp.1.length≤d) :
  aX F (((w1.setCell ⟨G,3,none⟩ v).setCell ⟨G,1,none⟩ (.slice B tp.1.length d)).setCell ⟨G,2,none⟩ (.int .i64 tp.2)) G { g with commits:=l,tape:=tp } fs { (m.row 0 v 3) with cs:=((m.row 0 v 3).cs.setIfInBounds 1 (.slice B tp.1.length d)).setIfInBounds 2 (.int .i64 tp.2),A:=B,c:=d }:=by
 have hlt:∀ j b,j<4→(m.v j).ownBlock=some b→b<w.heap.size:=fun j b hj hb=>h.rows.lts hj hb
 have hvb:∀ b,v.ownBlock=some b→w.heap.size≤b:=fun b hb=>by
  obtain⟨xs,h1,_⟩:=hown
  exact (h1.lt b hb).1
 have h1:=h.row0 (F':=F) (w1:=w1) (v:=v) (l:=l) (aC.of_below hb) (fun b hb=>.inr (hvb b hb)) (fun e=>by have:=hvb G e;have:=h.lt;omega) (own_new h.lt hlt hown) (fun b hb=>.inl ⟨hb,hlow b hb⟩)
 refine h1.setTape B d tp ?_ hd
 have h2:Bs (fun b=>b≠G∧(m.row 0 v 3).fix G b) w1 B tp.1:=hbs.bless fun b _ hs=>⟨by have h3:w.heap.size≤b:=hs.1;have:=h.lt;omega,fix_new h.lt hlt hs.1 hs.2⟩
 exact (h2.bsame ((aC.refl _ _).setCell (p:=⟨G,3,none⟩) (fun h=>h.1 rfl) v)).bless fun b _ hs=>hs.2
theorem aX.cut {F:Nat→Prop} {w:World} {G:Nat} {g:Eng} {fs:List (List Tn)} {m:Mem} {a:Addr} {n c k:Nat} (h:aX F w G g fs m) (hlow:∀ b,F b→b<w.heap.size) (hv:m.v 1=.slice (some a) n c) (hk:k≤fs.length):aX F (w.setCell ⟨G,4,none⟩ (.slice (some a) k c)) G g (fs.take k) (m.row 1 (.slice (some a) k c) 4):=by
 have ho:Value.ownBlock (.slice (some a) k c)=(m.v 1).ownBlock:=by rw[hv];rfl
 refine h.row1 (F':=F) (w1:=w) (v:=.slice (some a) k c) (l:=fs.take k) (aC.refl _ _) (fun b hb=>.inl (ho ▸ hb)) (by rw[ho];exact h.rows.apart.own 1 AO) (bB6 foR_stays ?_) (fun b hb=>.inl ⟨hb,hlow b hb⟩)
 have h1:=h.rows.fo
 rw[hv] at h1
 exact h1.prefix hk
theorem cI5 (F:Nat→Prop) (w:World) (G:Nat) (g:Eng) (n:Nat) (keep:Int) (h:Srv F w G g n) (hk:0≤keep) :
  Calls Tryz.prog 74 #[.pointer (some ⟨G,0,none⟩),.int .i64 keep] w (aO F w G (aS1 g keep) n (.tuple #[])):=by
 obtain⟨m,hm⟩:=h.eng
 have c0:w.cell? ⟨G,0,none⟩=some (.bool g.up):=(hm.cell 0).trans hm.cells.up
 have hG:=hm.lt
 have H:=zh h
 have Hm:=zh hm
 cases hup:g.up with
 | false =>
  rw[hup] at c0
  have Hv:=zh (show aS1 g keep=g by unfold aS1;rw[if_pos hup])
  clear h hm hup
  go_enter Tryz.func74,Tryz.ntmps74
  go_wp2
  refine bodyPost_ret (v:=.tuple #[]) (by simp[results,Tryz.results74,go_sem]) rfl ?_
  rw[Hv.out]
  exact⟨rfl,H.out,aC.refl _ _,Below.refl _ _⟩
 | true =>
  rw[hup] at c0
  have c1:=(hm.cell 1).trans hm.cells.data
  have c2:=(hm.cell 2).trans hm.cells.safe
  obtain⟨j,hj1,hj2,hrec⟩:=bH8 h.inv.holds hk
  obtain⟨ct,ce,hct⟩:∃ ct ce,aL4 g.tape keep=(ct,ce):=⟨_,_,rfl⟩
  rw[hct] at hrec
  obtain⟨tp,htp⟩:∃ tp:Tp,tp=(aR (g.commits.take j),((aR (g.commits.take j)).length:Int)):=⟨_,rfl⟩
  rw[← htp] at hrec
  obtain⟨l,hl⟩:∃ l,l=g.commits.take j:=⟨_,rfl⟩
  have hll:l.length=j:=by rw[hl,List.length_take];omega
  have Hv:=zh (show aS1 g keep={ up:=false,tape:=tp,commits:=l,synced:=l.length,sess:=List.replicate 8 ss0,waiting:=[],replies:=g.replies } by unfold aS1;rw[if_neg (by simp[hup]),hct];simp only[];rw[hrec,hl])
  have Hi:=zh (h.inv.crash hk)
  rw[← hl] at hrec
  have Hrec:=zh hrec
  have Hct:=zh hct
  have Hl:=zh hl
  have Hl8:=zh h.inv.sess
  have hlm:l.length≤g.commits.length:=by omega
  have Hll:=zh hll
  clear hll
  have hl3:g.commits.length≤300:=h.inv.many
  obtain⟨gf,fcap,FA,fc,hv1,hcf,hlf,hTs,hgf⟩:=hm.forest_at (k:=0) (Nat.zero_le _)
  obtain⟨ca1,ca2⟩:g.commits.length+1≤fcap∧fcap≤maxLen:=by
   obtain⟨xs,x1,_⟩:=hm.rows.fo
   have hfl:g.forests.length=g.commits.length+1:=by unfold Eng.forests;simp
   rcases x1.2 with ⟨_,hz⟩|⟨g0,cap,cur,hv,_,_,hcap,hmax,_⟩
   ·omega
   ·rw[hv1] at hv
    simp only[Value.slice.injEq] at hv
    omega
  have Hv1:=zh hv1
  have Hcap:=zh hm.rows.cap
  clear h hm hup hrec hct htp hl hTs hcf hlf hv1 hgf
  go_enter Tryz.func74,Tryz.ntmps74
  go_wp2_with (first
   | (go_at_call 123;(with_reducible refine (cA1 _ m.A g.tape m.c keep ?hc ?ha).mono ?_);(case hc=>exact Hcap.out);(case ha=>exact Hm.out.rows.dat.bz);rw[Hct.out];rintro e1 w1 ⟨A1,k1,rfl,hk1,s1,hb1⟩;have S1:=zh s1;clear s1)
   | (go_at_call 124;(with_reducible refine (bQ8 _ ?hT A1 ct k1 ?ha).mono ?_);(case hT=>exact H.out.env.tabs.below (hb1.alloc hb1.size _));(case ha=>exact (S1.out.bbelow ((Below.refl _ _).alloc zn _)).bz);rw[Hrec.out];rintro e2 w2 ⟨v,B,d,rfl,hd,hown,hbs,hb2⟩;obtain⟨VA,vc,hv⟩:=aP6 hown;dsimp only at hd hown hbs hv;subst hv;have hbA:Below w.heap.size w (w1.alloc (.cells #[.slice A1 ct.1.length k1,.int .i64 ct.2] 108)):=hb1.alloc hb1.size _;have HmA:=zh (Hm.out.below (F':=F) hbA fun b hb=>.inl hb);have HmB:=zh (HmA.out.below (F':=F) hb2 fun b hb=>.inl hb);have Hown:=zh hown;have Hbs:=zh hbs;have HbA:=zh hbA;have HbB:=zh (hbA.next hb2 hbA.size);have Hb2:=zh hb2;have Hd:=zh hd;have x1:=(HmB.out.cell 1).trans HmB.out.cells.data;have x2:=(HmB.out.cell 2).trans HmB.out.cells.safe;have x3:=(HmB.out.cell 3).trans HmB.out.cells.com;have y1:=HmB.out.frozen 1;have y2:=HmB.out.frozen 2;have y3:=HmB.out.frozen 3;clear hown hbs hd hb2 hbA))
  have hlowA:∀ b,F b→b<(w1.alloc (.cells #[.slice A1 ct.1.length k1,.int .i64 ct.2] 108)).heap.size:=fun b hb=>Nat.lt_of_lt_of_le (H.out.low b hb) HbA.out.size
  have hm3:=HmA.out.recovered hlowA Hb2.out Hown.out Hbs.out Hd.out
  obtain⟨w3,hw3⟩:∃ w3,w3=((w2.setCell ⟨G,3,none⟩ (.slice VA l.length vc)).setCell ⟨G,1,none⟩ (.slice B tp.1.length d)).setCell ⟨G,2,none⟩ (.int .i64 tp.2):=⟨_,rfl⟩
  have hFG:¬ F G:=fun hF=>(Hm.out.fixF G hF).1 rfl
  have Hs3:=zh (show aC F w w3 by rw[hw3];exact (((aC.of_below HbB.out).setCell (p:=⟨G,3,none⟩) hFG _).setCell (p:=⟨G,1,none⟩) hFG _).setCell (p:=⟨G,2,none⟩) hFG _)
  have Hb3:=zh (show Below 0 w w3 by rw[hw3];exact (((aU0 HbB.out).setCell (p:=⟨G,3,none⟩) (Nat.zero_le _) _).setCell (p:=⟨G,1,none⟩) (Nat.zero_le _) _).setCell (p:=⟨G,2,none⟩) (Nat.zero_le _) _)
  rw[← hw3] at hm3 ⊢
  have Hm3:=zh hm3
  have hm3v:∀ i,(if i=0 then Value.slice VA l.length vc else m.v i)=if i=0 then Value.slice VA l.length vc else m.v i:=fun _=>rfl
  clear hm3 hw3 hlowA x1 x2 x3 y1 y2 y3 c0 c1 c2 hm3v
  have z0:=(Hm3.out.cell 0).trans Hm3.out.cells.up
  have z3:w3.cell? ⟨G,3,none⟩=some (.slice VA l.length vc):=(Hm3.out.cell 3).trans Hm3.out.cells.com
  have z4:w3.cell? ⟨G,4,none⟩=some (.slice (some ⟨gf,0,none⟩) (g.commits.length+1) fcap):=(Hm3.out.cell 4).trans (Hm3.out.cells.fo.trans (congrArg some Hv1.out))
  have z5:=(Hm3.out.cell 5).trans Hm3.out.cells.syn
  have z22:=(Hm3.out.cell 22).trans Hm3.out.cells.wai
  have y0:=Hm3.out.frozen 0
  have y4:=Hm3.out.frozen 4
  have y5:=Hm3.out.frozen 5
  have y22:=Hm3.out.frozen 22
  have p0:=(Hm3.out.cell 6).trans (Hm3.out.cells.px 0 AO)
  have t0:=(Hm3.out.cell 7).trans (Hm3.out.cells.wt 0 AO)
  have q0:=Hm3.out.frozen 6
  have u0:=Hm3.out.frozen 7
  have p1:=(Hm3.out.cell 8).trans (Hm3.out.cells.px 1 AO)
  have t1:=(Hm3.out.cell 9).trans (Hm3.out.cells.wt 1 AO)
  have q1:=Hm3.out.frozen 8
  have u1:=Hm3.out.frozen 9
  have p2:=(Hm3.out.cell 10).trans (Hm3.out.cells.px 2 AO)
  have t2:=(Hm3.out.cell 11).trans (Hm3.out.cells.wt 2 AO)
  have q2:=Hm3.out.frozen 10
  have u2:=Hm3.out.frozen 11
  have p3:=(Hm3.out.cell 12).trans (Hm3.out.cells.px 3 AO)
  have t3:=(Hm3.out.cell 13).trans (Hm3.out.cells.wt 3 AO)
  have q3:=Hm3.out.frozen 12
  have u3:=Hm3.out.frozen 13
  have p4:=(Hm3.out.cell 14).trans (Hm3.out.cells.px 4 AO)
  have t4:=(Hm3.out.cell 15).trans (Hm3.out.cells.wt 4 AO)
  have q4:=Hm3.out.frozen 14
  have u4:=Hm3.out.frozen 15
  have p5:=(Hm3.out.cell 16).trans (Hm3.out.cells.px 5 AO)
  have t5:=(Hm3.out.cell 17).trans (Hm3.out.cells.wt 5 AO)
  have q5:=Hm3.out.frozen 16
  have u5:=Hm3.out.frozen 17
  have p6:=(Hm3.out.cell 18).trans (Hm3.out.cells.px 6 AO)
  have t6:=(Hm3.out.cell 19).trans (Hm3.out.cells.wt 6 AO)
  have q6:=Hm3.out.frozen 18
  have u6:=Hm3.out.frozen 19
  have p7:=(Hm3.out.cell 20).trans (Hm3.out.cells.px 7 AO)
  have t7:=(Hm3.out.cell 21).trans (Hm3.out.cells.wt 7 AO)
  have q7:=Hm3.out.frozen 20
  have u7:=Hm3.out.frozen 21
  have hi0:(0:Int)≤(l.length:Int)+1:=by omega
  have hi1:(l.length:Int)+1≤(fcap:Int):=by omega
  have hlow3:∀ b,F b→b<w3.heap.size:=fun b hb=>Nat.lt_of_lt_of_le (H.out.low b hb) Hs3.out.size
  have hfl:g.forests.length=g.commits.length+1:=by unfold Eng.forests;simp
  have hm4:=Hm3.out.cut hlow3 (a:=⟨gf,0,none⟩) (n:=g.commits.length+1) (c:=fcap) (k:=l.length+1) (by show (if 1=0 then Value.slice VA l.length vc else m.v 1)=_;rw[if_neg ZD9];exact Hv1.out) AO
  have hm5:=(hm4.setSynced l.length).setUp false
  have hk0:=hm5.row2 (F':=F) (w1:=_) (v:=.slice none 0 0) (l:=[]) (aC.refl _ _) (fun b hb=>by cases hb) (fun e=>by cases e) (Own.nil _ _ _) (fun b hb=>.inl ⟨hb,by have:=hlow3 b hb;simp[World.setCell];omega⟩)
  obtain⟨k8,hk8⟩:=hk0.wipe8 Hl8.out
  have hfo:(aS1 g keep).forests=g.forests.take (l.length+1):=by
   rw[Hv.out]
   have h1:=cB9 g.commits hj2
   rw[← Hl.out] at h1
   show (List.range (l.length+1)).map (aS l)=_
   rw[h1,Hll.out]
   rfl
  obtain⟨WE,hWE⟩:∃ WE,WE=((((((((((((((((((((w3.setCell ⟨G,4,none⟩ (.slice (some ⟨gf,0,none⟩) (l.length+1) fcap)).setCell ⟨G,5,none⟩ (.int .i64 (l.length:Int))).setCell ⟨G,0,none⟩ (.bool false)).setCell ⟨G,22,none⟩ (.slice none 0 0)).setCell ⟨G,6,none⟩ (.pointer none)).setCell ⟨G,7,none⟩ (.bool false)).setCell ⟨G,8,none⟩ (.pointer none)).setCell ⟨G,9,none⟩ (.bool false)).setCell ⟨G,10,none⟩ (.pointer none)).setCell ⟨G,11,none⟩ (.bool false)).setCell ⟨G,12,none⟩ (.pointer none)).setCell ⟨G,13,none⟩ (.bool false)).setCell ⟨G,14,none⟩ (.pointer none)).setCell ⟨G,15,none⟩ (.bool false)).setCell ⟨G,16,none⟩ (.pointer none)).setCell ⟨G,17,none⟩ (.bool false)).setCell ⟨G,18,none⟩ (.pointer none)).setCell ⟨G,19,none⟩ (.bool false)).setCell ⟨G,20,none⟩ (.pointer none)).setCell ⟨G,21,none⟩ (.bool false)):=⟨_,rfl⟩
  have hk8':aX F WE G { up:=false,tape:=tp,commits:=l,synced:=l.length,sess:=List.replicate 8 ss0,waiting:=[],replies:=g.replies } (g.forests.take (l.length+1)) k8:=by
   rw[hWE]
   exact hk8
  rw[← Hv.out,← hfo] at hk8'
  have Hk8:=zh hk8'
  have Hs9:=zh (show aC F w WE by
   rw[hWE]
   exact ((((((((((((((((((((Hs3.out.setCell (p:=⟨G,4,none⟩) hFG _).setCell (p:=⟨G,5,none⟩) hFG _).setCell (p:=⟨G,0,none⟩) hFG _).setCell (p:=⟨G,22,none⟩) hFG _).setCell (p:=⟨G,6,none⟩) hFG _).setCell (p:=⟨G,7,none⟩) hFG _).setCell (p:=⟨G,8,none⟩) hFG _).setCell (p:=⟨G,9,none⟩) hFG _).setCell (p:=⟨G,10,none⟩) hFG _).setCell (p:=⟨G,11,none⟩) hFG _).setCell (p:=⟨G,12,none⟩) hFG _).setCell (p:=⟨G,13,none⟩) hFG _).setCell (p:=⟨G,14,none⟩) hFG _).setCell (p:=⟨G,15,none⟩) hFG _).setCell (p:=⟨G,16,none⟩) hFG _).setCell (p:=⟨G,17,none⟩) hFG _).setCell (p:=⟨G,18,none⟩) hFG _).setCell (p:=⟨G,19,none⟩) hFG _).setCell (p:=⟨G,20,none⟩) hFG _).setCell (p:=⟨G,21,none⟩) hFG _))
  have Hb9:=zh (show Below 0 w WE by
   rw[hWE]
   exact ((((((((((((((((((((Hb3.out.setCell (p:=⟨G,4,none⟩) (Nat.zero_le _) _).setCell (p:=⟨G,5,none⟩) (Nat.zero_le _) _).setCell (p:=⟨G,0,none⟩) (Nat.zero_le _) _).setCell (p:=⟨G,22,none⟩) (Nat.zero_le _) _).setCell (p:=⟨G,6,none⟩) (Nat.zero_le _) _).setCell (p:=⟨G,7,none⟩) (Nat.zero_le _) _).setCell (p:=⟨G,8,none⟩) (Nat.zero_le _) _).setCell (p:=⟨G,9,none⟩) (Nat.zero_le _) _).setCell (p:=⟨G,10,none⟩) (Nat.zero_le _) _).setCell (p:=⟨G,11,none⟩) (Nat.zero_le _) _).setCell (p:=⟨G,12,none⟩) (Nat.zero_le _) _).setCell (p:=⟨G,13,none⟩) (Nat.zero_le _) _).setCell (p:=⟨G,14,none⟩) (Nat.zero_le _) _).setCell (p:=⟨G,15,none⟩) (Nat.zero_le _) _).setCell (p:=⟨G,16,none⟩) (Nat.zero_le _) _).setCell (p:=⟨G,17,none⟩) (Nat.zero_le _) _).setCell (p:=⟨G,18,none⟩) (Nat.zero_le _) _).setCell (p:=⟨G,19,none⟩) (Nat.zero_le _) _).setCell (p:=⟨G,20,none⟩) (Nat.zero_le _) _).setCell (p:=⟨G,21,none⟩) (Nat.zero_le _) _))
  clear hm4 hm5 hk0 hk8 hk8' hfo hfl
  go_region
  all_goals go_wp2
  rw[← hWE]
  refine bodyPost_end (v:=.tuple #[]) (by simp[results,Tryz.results74,go_sem]) rfl ?_
  exact⟨rfl,⟨⟨_,Hk8.out.below ((Below.refl _ _).drew) fun b hb=>.inl hb⟩,H.out.env.same Hs9.out.drew,Hi.out,fun b hb=>Nat.lt_of_lt_of_le (H.out.low b hb) Hs9.out.size⟩,Hs9.out.drew,Hb9.out.drew⟩
end Go.Proofs.YtablgnacmpcfeaaGreatDoor
