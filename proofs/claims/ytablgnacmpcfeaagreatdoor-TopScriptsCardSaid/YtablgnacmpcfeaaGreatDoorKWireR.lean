/- WireR: What a request reads and writes: plain words; the references. Walks: wire.Read, wire.Write, RequestRead, RequestWrite. Walks: wire.Read, wire.Write. The laws WireReads, WireWrites: their walks. Words for wire.Decode. The conditions of each are in its words. -/
import Derived.Deep.RegionHeld3
import Derived.Test.YtablgnacmpcfeaaGreatDoorKWire
import Derived.Test.YtablgnacmpcfeaaGreatDoorKBase
import Derived.Test.YtablgnacmpcfeaaGreatDoorKTxnW
import Derived.Test.YtablgnacmpcfeaaGreatDoorKTxn
import Derived.Test.YtablgnacmpcfeaaGreatDoorKDec
namespace Go.Proofs.YtablgnacmpcfeaaGreatDoor
open Go.RowKit
set_option linter.unusedVariables false
set_option linter.unusedSimpArgs false
set_option maxRecDepth 100000
set_option maxHeartbeats 8000000
def wr0:Wr:=⟨[],[],false,[]⟩
def bH7 (r:Rq):Wr:=⟨r.name,r.key,r.kind==3,r.last⟩
def bB4 (r:Rq):Wr:=⟨r.name,r.key,r.kind==5,r.value⟩
def aG1 (r:Rq):Wr × Int:=if aQ r≠0 then (wr0,aQ r) else if r.kind=2∨r.kind=3 then (bH7 r,0) else (wr0,7)
def aF9 (r:Rq):Wr × Int:=if aQ r≠0 then (wr0,aQ r) else if r.kind=4∨r.kind=5 then (bB4 r,0) else (wr0,7)
def RetWrE (w:World) (r:Wr × Int) (e:Ending) (w':World):Prop :=
 ∃ A a B b C c,e=.returned (.tuple #[.agg #[.slice A r.1.name.length a,.slice B r.1.key.length b,.bool r.1.flag,.slice C r.1.value.length c],.int .i64 r.2])∧Bs (aB w.heap.size) w' A r.1.name∧Bs (aB w.heap.size) w' B r.1.key∧Bs (aB w.heap.size) w' C r.1.value∧Below w.heap.size w w'
theorem bD8 {h:Nat} {r:Rq} (hp:aG7 h r=0):aG3 h r 0=0∧aG3 h r 1=0∧aG3 h r 2=0∧aG3 h r 3=0:=by
 unfold aG7 at hp
 simp only[aB0] at hp
 by_cases h0:aG3 h r 0=0
 ·rw[if_neg (by simpa using h0)] at hp
  by_cases h1:aG3 h r 1=0
  ·rw[if_neg ZE3] at hp
   by_cases h2:aG3 h r 2=0
   ·rw[if_neg (by simpa using h2)] at hp
    by_cases h3:aG3 h r 3=0
    ·exact⟨h0,h1,h2,h3⟩
    ·rw[if_pos (by simpa using h3)] at hp;exact absurd hp h3
   ·rw[if_pos (by simpa using h2)] at hp;exact absurd hp h2
  ·rw[if_pos ZE3] at hp;exact absurd hp h1
 ·rw[if_pos (by simpa using h0)] at hp;exact absurd hp h0
theorem bB5 {h:Nat} {r:Rq} (hf:aB4 h r=0):aA9 h r=0∧r.value.length≤32∧aG7 h r=0:=by
 unfold aB4 at hf
 by_cases h1:aA9 h r=0
 ·rw[if_neg (by simp[h1])] at hf
  by_cases h2:32<r.value.length
  ·rw[if_pos h2] at hf;cases hf
  ·rw[if_neg h2] at hf;exact⟨h1,AO,hf⟩
 ·rw[if_pos h1] at hf;exact absurd hf h1
theorem aX3 {h:Nat} {r:Rq} (hh:h % 2=1) (h1:aA9 h r=0):aI r.name=0∧aE r.key=0∧(h / 4 % 2=1→aE r.last=0):=by
 unfold aA9 at h1
 rw[if_neg AO] at h1
 by_cases h3:aI r.name=0
 ·rw[if_neg (by simp[h3])] at h1
  by_cases h4:aE r.key=0
  ·refine⟨h3,h4,fun hl=>?_⟩
   rw[if_neg (by simp[h4]),if_neg AO] at h1
   exact h1
  ·rw[if_pos h4] at h1;exact absurd h1 h4
 ·rw[if_pos h3] at h1;exact absurd h1 h3
theorem cH2 {h:Nat} {r:Rq} {i:Nat} (hp:aG3 h r i=0) (hb:h / 2 ^ i % 2=0):(aV r i).length=0:=by
 unfold aG3 at hp
 by_cases h0:0<(aV r i).length
 ·rw[if_pos ⟨hb,h0⟩] at hp;cases hp
 ·omega
theorem cR8 {r:Rq} (hf:aQ r=0):(1≤r.kind∧r.kind≤8)∧aB4 (bO r.kind.toNat) r=0:=by
 unfold aQ at hf
 by_cases h:1≤r.kind∧r.kind≤8
 ·rw[if_neg ZF9] at hf;exact⟨h,hf⟩
 ·rw[if_pos h] at hf;cases hf
theorem rq_read {r:Rq} (hf:aQ r=0) (hk:r.kind=2∨r.kind=3):aA4 (bH7 r)=0:=by
 obtain⟨_,hb⟩:=cR8 hf
 obtain⟨i,n,e,l,v⟩:=r
 dsimp only at *
 rcases hk with rfl|rfl
 ·obtain⟨b1,b2,b3⟩:=bB5 (h:=3) (hb)
  obtain⟨n1,n2,n3⟩:=aX3 ZD9 b1
  obtain⟨_,_,p2,_⟩:=bD8 b3
  have hl:l.length=0:=cH2 p2 ZD9
  have n1':aI n=0:=n1
  have n2':aE e=0:=n2
  unfold aA4 bH7
  dsimp only
  rw[if_neg (by simp[n1']),if_neg (by simp[n2']),if_neg ZD9,if_neg AO]
 ·obtain⟨b1,b2,b3⟩:=bB5 (h:=7) (hb)
  obtain⟨n1,n2,n3⟩:=aX3 ZD9 b1
  have n1':aI n=0:=n1
  have n2':aE e=0:=n2
  unfold aA4 bH7
  dsimp only
  rw[if_neg (by simp[n1']),if_neg (by simp[n2']),if_pos ZD9]
  exact n3 ZD9
theorem rq_write {r:Rq} (hf:aQ r=0) (hk:r.kind=4∨r.kind=5):aH (bB4 r)=0:=by
 obtain⟨_,hb⟩:=cR8 hf
 obtain⟨i,n,e,l,v⟩:=r
 dsimp only at *
 rcases hk with rfl|rfl
 ·obtain⟨b1,b2,b3⟩:=bB5 (h:=11) (hb)
  obtain⟨n1,n2,n3⟩:=aX3 ZD9 b1
  have n1':aI n=0:=n1
  have n2':aE e=0:=n2
  have b2':v.length≤32:=b2
  unfold aH bB4
  dsimp only
  rw[if_neg (by simp[n1']),if_neg ZD9]
  unfold aA5
  dsimp only
  rw[if_neg AO]
  exact n2'
 ·obtain⟨b1,b2,b3⟩:=bB5 (h:=3) (hb)
  obtain⟨n1,n2,n3⟩:=aX3 ZD9 b1
  obtain⟨_,_,_,p3⟩:=bD8 b3
  have hl:v.length=0:=cH2 p3 ZD9
  have n1':aI n=0:=n1
  have n2':aE e=0:=n2
  unfold aH bB4
  dsimp only
  rw[if_neg (by simp[n1']),if_pos ZD9,if_neg (by simp[n2']),if_neg AO]
theorem cV2 {r:Wr} (h:aA4 r=0):aH7 zeroTx r=(⟨0,[r],[]⟩,0):=by
 unfold aH7
 rw[if_neg ZD9,if_neg (by simp[h])]
 rfl
theorem cN1 {r:Wr} (h:aH r=0):aD0 zeroTx r=(⟨0,[],[r]⟩,0):=by
 unfold aD0
 rw[if_neg ZD9,if_neg (by simp[h])]
 rfl
structure Box2 (w:World) (t:TypeId) (k:Int) (A B C D:Option Addr) (r:Rq) (a b c d:Nat) (W:World):Prop where
 c0:W.cell? ⟨w.heap.size,0,none⟩=some (.int .i64 k)
 c1:W.cell? ⟨w.heap.size,1,none⟩=some (.slice A r.name.length a)
 c2:W.cell? ⟨w.heap.size,2,none⟩=some (.slice B r.key.length b)
 c3:W.cell? ⟨w.heap.size,3,none⟩=some (.slice C r.last.length c)
 c4:W.cell? ⟨w.heap.size,4,none⟩=some (.slice D r.value.length d)
 z0:W.cell? ⟨w.heap.size+1,0,none⟩=some (.slice none 0 0)
 z1:W.cell? ⟨w.heap.size+1,1,none⟩=some (.slice none 0 0)
 z2:W.cell? ⟨w.heap.size+1,2,none⟩=some (.bool false)
 z3:W.cell? ⟨w.heap.size+1,3,none⟩=some (.slice none 0 0)
 y0:W.frozen? ⟨w.heap.size+1,0,none⟩=false
 y1:W.frozen? ⟨w.heap.size+1,1,none⟩=false
 y2:W.frozen? ⟨w.heap.size+1,2,none⟩=false
 y3:W.frozen? ⟨w.heap.size+1,3,none⟩=false
 bel:Below w.heap.size w W
 size:w.heap.size+2≤W.heap.size
theorem cR9 (w:World) (t:TypeId) (A B C D:Option Addr) (r:Rq) (a b c d:Nat) {W:World} (hW:Below (w.heap.size+2) ((w.alloc (.cells #[.int .i64 r.kind,.slice A r.name.length a,.slice B r.key.length b,.slice C r.last.length c,.slice D r.value.length d] 48)).alloc (.cells #[.slice none 0 0,.slice none 0 0,.bool false,.slice none 0 0] t)) W):Box2 w t r.kind A B C D r a b c d W:=by
 have h0:W.heap[w.heap.size]?=some (.cells #[.int .i64 r.kind,.slice A r.name.length a,.slice B r.key.length b,.slice C r.last.length c,.slice D r.value.length d] 48 (0,0)):=(hW.block _ AO).trans ((heap_alloc_old _ _ ZH2).trans (aK w _ _))
 have h1:W.heap[w.heap.size+1]?=some (.cells #[.slice none 0 0,.slice none 0 0,.bool false,.slice none 0 0] t (0,0)):=(hW.block _ AO).trans (by have:=aK (w.alloc (.cells #[.int .i64 r.kind,.slice A r.name.length a,.slice B r.key.length b,.slice C r.last.length c,.slice D r.value.length d] 48)) #[.slice none 0 0,.slice none 0 0,.bool false,.slice none 0 0] t;simpa using this)
 obtain⟨⟨g0,g1,g2,g3,g4⟩,_⟩:=bR h0
 obtain⟨z0,z1,z2,z3,y0,y1,y2,y3⟩:=bG h1
 exact⟨g0,g1,g2,g3,g4,z0,z1,z2,z3,y0,y1,y2,y3,(((Below.refl w.heap.size w).alloc zn _).alloc ZH2 _).trans (hW.mono AO),by simpa using hW.size⟩
theorem bX4 (w:World) (P Q V:Option Addr) (n e l:List UInt8) (f:Bool) (p q v:Nat) (hp:Bs All w P n) (hq:Bs All w Q e) (hv:Bs All w V l) (h1:n.length≤big) (h2:e.length≤big) (h3:l.length≤big) (hz:aA4 ⟨n,e,f,l⟩=0) :
  Calls Tryz.prog 230 #[.agg #[.int .i64 0,.slice none 0 0,.slice none 0 0],.agg #[.slice P n.length p,.slice Q e.length q,.bool f,.slice V l.length v]] w (bO3 w (⟨0,[⟨n,e,f,l⟩],[]⟩,0)):=by
 have h:=cQ8 w none none zeroTx 0 0 P Q V ⟨n,e,f,l⟩ p q v SL.nil SL.nil hp hq hv h1 h2 h3 zn zn
 rw[cV2 hz] at h
 exact h
theorem bR2 (w:World) (P Q V:Option Addr) (n e l:List UInt8) (f:Bool) (p q v:Nat) (hp:Bs All w P n) (hq:Bs All w Q e) (hv:Bs All w V l) (h1:n.length≤big) (h2:e.length≤big) (h3:l.length≤big) (hz:aH ⟨n,e,f,l⟩=0) :
  Calls Tryz.prog 31 #[.agg #[.int .i64 0,.slice none 0 0,.slice none 0 0],.agg #[.slice P n.length p,.slice Q e.length q,.bool f,.slice V l.length v]] w (bO3 w (⟨0,[],[⟨n,e,f,l⟩]⟩,0)):=by
 have h:=bJ4 w none none zeroTx 0 0 P Q V ⟨n,e,f,l⟩ p q v SL.nil SL.nil hp hq hv h1 h2 h3 zn zn
 rw[cN1 hz] at h
 exact h
theorem cH3 (w:World) (hT:bL w) (A B C D:Option Addr) (r:Rq) (a b c d:Nat) (hA:Bs All w A r.name) (hB:Bs All w B r.key) (hC:Bs All w C r.last) (hn:r.name.length≤big) (he:r.key.length≤big) (hl:r.last.length≤big) :
  Calls Tryz.prog 229 #[.agg #[.int .i64 r.kind,.slice A r.name.length a,.slice B r.key.length b,.slice C r.last.length c,.slice D r.value.length d]] w (RetWrE w (aG1 r)):=by
 have HT:=zh hT
 have HA:=zh hA
 have HB:=zh hB
 have HC:=zh hC
 have Hbox:=zh (show ∀ W,Below (w.heap.size+2) ((w.alloc (.cells #[.int .i64 r.kind,.slice A r.name.length a,.slice B r.key.length b,.slice C r.last.length c,.slice D r.value.length d] 48)).alloc (.cells #[.slice none 0 0,.slice none 0 0,.bool false,.slice none 0 0] 204)) W→Box2 w 204 r.kind A B C D r a b c d W from fun W hW=>cR9 w _ A B C D r a b c d hW)
 clear hA hB hC hT
 have hrf:=fun w hT=>aD7 w hT A B C D r a b c d
 by_cases hf:aQ r=0
 ·rw[hf] at hrf
  by_cases hk:r.kind=2∨r.kind=3
  ·have Hv:=zh (show aG1 r=(bH7 r,0) by unfold aG1;rw[if_neg (by simp[hf]),if_pos hk])
   have Hz0:=zh (show aA4 ⟨r.name,r.key,(r.kind==3),r.last⟩=0 from rq_read hf hk)
   have Hfl:=zh (show bH7 r=⟨r.name,r.key,(r.kind==3),r.last⟩ from rfl)
   clear hf
   generalize hkg:r.kind=kd at *
   clear hkg
   rcases hk with rfl|rfl
   ·have Hz:=zh (show aA4 ⟨r.name,r.key,false,r.last⟩=0 from Hz0.out)
    go_enter Tryz.func229,Tryz.ntmps229
    go_wp2_with (first
     | (go_at_call 50;(with_reducible refine (hrf _ ?hT).mono ?_);(case hT=>exact HT.out.below ((((Below.refl w.heap.size w).alloc zn _).alloc ZH2 _)));rintro e1 w1 ⟨rfl,hb1⟩;have hk1:=(Below.refl (w.heap.size+2) _).next hb1 ZH2;obtain⟨c0,c1,c2,c3,c4,z0,z1,z2,z3,y0,y1,y2,y3,hw1,hs1⟩:=Hbox.out _ hk1)
     | (go_at_call 230;(with_reducible refine (bX4 _ A B C r.name r.key r.last false a b c ?h1 ?h2 ?h3 hn he hl Hz.out).mono ?_);(case h1=>exact HA.out.bbelow hw1);(case h2=>exact HB.out.bbelow hw1);(case h3=>exact HC.out.bbelow hw1);rintro e2 w2 ⟨A2,n2,B2,m2,rfl,_,_,hsR,hsW,hb2⟩;have hk2:=hk1.next hb2 hs1;obtain⟨_,_,_,_,_,z0',z1',z2',z3',y0',y1',y2',y3',hw2,hz2⟩:=Hbox.out _ hk2;obtain⟨g,off,A3,a3,B3,b3,C3,c3',rfl,hgS,hgl,q0,q1,q2,q3,t1,t2,t3,_,_,_⟩:=aF4 hsR (k:=0) ZH2;simp only[Nat.zero_mul,Nat.add_zero,List.getElem_cons_zero] at q0 q1 q2 q3 t1 t2 t3;have hb2s:=hb2.size;have hzz1:w.heap.size+1<w2.heap.size:=AO))
    refine bodyPost_ret (v:=.tuple #[.agg #[.slice A3 r.name.length a3,.slice B3 r.key.length b3,.bool false,.slice C3 r.last.length c3'],.int .i64 0]) (by simp[results,Tryz.results229,go_sem,z0',z1',z2',z3',y0',y1',y2',y3',hzz1]) rfl ?_
    rw[Hv.out,Hfl.out]
    refine⟨A3,a3,B3,b3,C3,c3',rfl,?_,?_,?_,?_⟩
    ·exact ZB6
    ·exact ZB7
    ·exact ZB8
    ·exact BX
   ·have Hz:=zh (show aA4 ⟨r.name,r.key,true,r.last⟩=0 from Hz0.out)
    go_enter Tryz.func229,Tryz.ntmps229
    go_wp2_with (first
     | (go_at_call 50;(with_reducible refine (hrf _ ?hT).mono ?_);(case hT=>exact HT.out.below ((((Below.refl w.heap.size w).alloc zn _).alloc ZH2 _)));rintro e1 w1 ⟨rfl,hb1⟩;have hk1:=(Below.refl (w.heap.size+2) _).next hb1 ZH2;obtain⟨c0,c1,c2,c3,c4,z0,z1,z2,z3,y0,y1,y2,y3,hw1,hs1⟩:=Hbox.out _ hk1)
     | (go_at_call 230;(with_reducible refine (bX4 _ A B C r.name r.key r.last true a b c ?h1 ?h2 ?h3 hn he hl Hz.out).mono ?_);(case h1=>exact HA.out.bbelow hw1);(case h2=>exact HB.out.bbelow hw1);(case h3=>exact HC.out.bbelow hw1);rintro e2 w2 ⟨A2,n2,B2,m2,rfl,_,_,hsR,hsW,hb2⟩;have hk2:=hk1.next hb2 hs1;obtain⟨_,_,_,_,_,z0',z1',z2',z3',y0',y1',y2',y3',hw2,hz2⟩:=Hbox.out _ hk2;obtain⟨g,off,A3,a3,B3,b3,C3,c3',rfl,hgS,hgl,q0,q1,q2,q3,t1,t2,t3,_,_,_⟩:=aF4 hsR (k:=0) ZH2;simp only[Nat.zero_mul,Nat.add_zero,List.getElem_cons_zero] at q0 q1 q2 q3 t1 t2 t3;have hb2s:=hb2.size;have hzz1:w.heap.size+1<w2.heap.size:=AO))
    refine bodyPost_ret (v:=.tuple #[.agg #[.slice A3 r.name.length a3,.slice B3 r.key.length b3,.bool true,.slice C3 r.last.length c3'],.int .i64 0]) (by simp[results,Tryz.results229,go_sem,z0',z1',z2',z3',y0',y1',y2',y3',hzz1]) rfl ?_
    rw[Hv.out,Hfl.out]
    refine⟨A3,a3,B3,b3,C3,c3',rfl,?_,?_,?_,?_⟩
    ·exact ZB6
    ·exact ZB7
    ·exact ZB8
    ·exact BX
  ·have Hv:=zh (show aG1 r=(wr0,7) by unfold aG1;rw[if_neg (by simp[hf]),if_neg hk])
   have k1:(r.kind==2)=false:=by simp;omega
   have k2:(r.kind==3)=false:=by simp;omega
   clear hk hf
   go_enter Tryz.func229,Tryz.ntmps229
   go_wp2_with ((go_at_call 50;(with_reducible refine (hrf _ ?hT).mono ?_);(case hT=>exact HT.out.below ((((Below.refl w.heap.size w).alloc zn _).alloc ZH2 _)));rintro e1 w1 ⟨rfl,hb1⟩;have hk1:=(Below.refl (w.heap.size+2) _).next hb1 ZH2;obtain⟨c0,c1,c2,c3,c4,z0,z1,z2,z3,y0,y1,y2,y3,hw1,hs1⟩:=Hbox.out _ hk1))
   refine bodyPost_ret (v:=.tuple #[.agg #[.slice none 0 0,.slice none 0 0,.bool false,.slice none 0 0],.int .i64 7]) (by simp[results,Tryz.results229,go_sem,z0,z1,z2,z3]) rfl ?_
   rw[Hv.out]
   exact ZA7
 ·have Hv:=zh (show aG1 r=(wr0,aQ r) by unfold aG1;rw[if_pos hf])
  have t0:(aQ r==0)=false:=by simpa using hf
  have t1:(aQ r != 0)=true:=by simpa using hf
  clear hf
  go_enter Tryz.func229,Tryz.ntmps229
  go_wp2_with ((go_at_call 50;(with_reducible refine (hrf _ ?hT).mono ?_);(case hT=>exact HT.out.below ((((Below.refl w.heap.size w).alloc zn _).alloc ZH2 _)));rintro e1 w1 ⟨rfl,hb1⟩;have hk1:=(Below.refl (w.heap.size+2) _).next hb1 ZH2;obtain⟨c0,c1,c2,c3,c4,z0,z1,z2,z3,y0,y1,y2,y3,hw1,hs1⟩:=Hbox.out _ hk1))
  refine bodyPost_ret (v:=.tuple #[.agg #[.slice none 0 0,.slice none 0 0,.bool false,.slice none 0 0],.int .i64 (aQ r)]) (by simp[results,Tryz.results229,go_sem,z0,z1,z2,z3]) rfl ?_
  rw[Hv.out]
  exact ZA7
theorem cB3 (w:World) (hT:bL w) (A B C D:Option Addr) (r:Rq) (a b c d:Nat) (hA:Bs All w A r.name) (hB:Bs All w B r.key) (hC:Bs All w D r.value) (hn:r.name.length≤big) (he:r.key.length≤big) (hl:r.value.length≤big) :
  Calls Tryz.prog 178 #[.agg #[.int .i64 r.kind,.slice A r.name.length a,.slice B r.key.length b,.slice C r.last.length c,.slice D r.value.length d]] w (RetWrE w (aF9 r)):=by
 have HT:=zh hT
 have HA:=zh hA
 have HB:=zh hB
 have HC:=zh hC
 have Hbox:=zh (show ∀ W,Below (w.heap.size+2) ((w.alloc (.cells #[.int .i64 r.kind,.slice A r.name.length a,.slice B r.key.length b,.slice C r.last.length c,.slice D r.value.length d] 48)).alloc (.cells #[.slice none 0 0,.slice none 0 0,.bool false,.slice none 0 0] 102)) W→Box2 w 102 r.kind A B C D r a b c d W from fun W hW=>cR9 w _ A B C D r a b c d hW)
 clear hA hB hC hT
 have hrf:=fun w hT=>aD7 w hT A B C D r a b c d
 by_cases hf:aQ r=0
 ·rw[hf] at hrf
  by_cases hk:r.kind=4∨r.kind=5
  ·have Hv:=zh (show aF9 r=(bB4 r,0) by unfold aF9;rw[if_neg (by simp[hf]),if_pos hk])
   have Hz0:=zh (show aH ⟨r.name,r.key,(r.kind==5),r.value⟩=0 from rq_write hf hk)
   have Hfl:=zh (show bB4 r=⟨r.name,r.key,(r.kind==5),r.value⟩ from rfl)
   clear hf
   generalize hkg:r.kind=kd at *
   clear hkg
   rcases hk with rfl|rfl
   ·have Hz:=zh (show aH ⟨r.name,r.key,false,r.value⟩=0 from Hz0.out)
    go_enter Tryz.func178,Tryz.ntmps178
    go_wp2_with (first
     | (go_at_call 50;(with_reducible refine (hrf _ ?hT).mono ?_);(case hT=>exact HT.out.below ((((Below.refl w.heap.size w).alloc zn _).alloc ZH2 _)));rintro e1 w1 ⟨rfl,hb1⟩;have hk1:=(Below.refl (w.heap.size+2) _).next hb1 ZH2;obtain⟨c0,c1,c2,c3,c4,z0,z1,z2,z3,y0,y1,y2,y3,hw1,hs1⟩:=Hbox.out _ hk1)
     | (go_at_call 31;(with_reducible refine (bR2 _ A B D r.name r.key r.value false a b d ?h1 ?h2 ?h3 hn he hl Hz.out).mono ?_);(case h1=>exact HA.out.bbelow hw1);(case h2=>exact HB.out.bbelow hw1);(case h3=>exact HC.out.bbelow hw1);rintro e2 w2 ⟨A2,n2,B2,m2,rfl,_,_,hsR,hsW,hb2⟩;have hk2:=hk1.next hb2 hs1;obtain⟨_,_,_,_,_,z0',z1',z2',z3',y0',y1',y2',y3',hw2,hz2⟩:=Hbox.out _ hk2;obtain⟨g,off,A3,a3,B3,b3,C3,c3',rfl,hgS,hgl,q0,q1,q2,q3,t1,t2,t3,_,_,_⟩:=aF4 hsW (k:=0) ZH2;simp only[Nat.zero_mul,Nat.add_zero,List.getElem_cons_zero] at q0 q1 q2 q3 t1 t2 t3;have hb2s:=hb2.size;have hzz1:w.heap.size+1<w2.heap.size:=AO))
    refine bodyPost_ret (v:=.tuple #[.agg #[.slice A3 r.name.length a3,.slice B3 r.key.length b3,.bool false,.slice C3 r.value.length c3'],.int .i64 0]) (by simp[results,Tryz.results178,go_sem,z0',z1',z2',z3',y0',y1',y2',y3',hzz1]) rfl ?_
    rw[Hv.out,Hfl.out]
    refine⟨A3,a3,B3,b3,C3,c3',rfl,?_,?_,?_,?_⟩
    ·exact ZB6
    ·exact ZB7
    ·exact ZB8
    ·exact BX
   ·have Hz:=zh (show aH ⟨r.name,r.key,true,r.value⟩=0 from Hz0.out)
    go_enter Tryz.func178,Tryz.ntmps178
    go_wp2_with (first
     | (go_at_call 50;(with_reducible refine (hrf _ ?hT).mono ?_);(case hT=>exact HT.out.below ((((Below.refl w.heap.size w).alloc zn _).alloc ZH2 _)));rintro e1 w1 ⟨rfl,hb1⟩;have hk1:=(Below.refl (w.heap.size+2) _).next hb1 ZH2;obtain⟨c0,c1,c2,c3,c4,z0,z1,z2,z3,y0,y1,y2,y3,hw1,hs1⟩:=Hbox.out _ hk1)
     | (go_at_call 31;(with_reducible refine (bR2 _ A B D r.name r.key r.value true a b d ?h1 ?h2 ?h3 hn he hl Hz.out).mono ?_);(case h1=>exact HA.out.bbelow hw1);(case h2=>exact HB.out.bbelow hw1);(case h3=>exact HC.out.bbelow hw1);rintro e2 w2 ⟨A2,n2,B2,m2,rfl,_,_,hsR,hsW,hb2⟩;have hk2:=hk1.next hb2 hs1;obtain⟨_,_,_,_,_,z0',z1',z2',z3',y0',y1',y2',y3',hw2,hz2⟩:=Hbox.out _ hk2;obtain⟨g,off,A3,a3,B3,b3,C3,c3',rfl,hgS,hgl,q0,q1,q2,q3,t1,t2,t3,_,_,_⟩:=aF4 hsW (k:=0) ZH2;simp only[Nat.zero_mul,Nat.add_zero,List.getElem_cons_zero] at q0 q1 q2 q3 t1 t2 t3;have hb2s:=hb2.size;have hzz1:w.heap.size+1<w2.heap.size:=AO))
    refine bodyPost_ret (v:=.tuple #[.agg #[.slice A3 r.name.length a3,.slice B3 r.key.length b3,.bool true,.slice C3 r.value.length c3'],.int .i64 0]) (by simp[results,Tryz.results178,go_sem,z0',z1',z2',z3',y0',y1',y2',y3',hzz1]) rfl ?_
    rw[Hv.out,Hfl.out]
    refine⟨A3,a3,B3,b3,C3,c3',rfl,?_,?_,?_,?_⟩
    ·exact ZB6
    ·exact ZB7
    ·exact ZB8
    ·exact BX
  ·have Hv:=zh (show aF9 r=(wr0,7) by unfold aF9;rw[if_neg (by simp[hf]),if_neg hk])
   have k1:(r.kind==4)=false:=by simp;omega
   have k2:(r.kind==5)=false:=by simp;omega
   clear hk hf
   go_enter Tryz.func178,Tryz.ntmps178
   go_wp2_with ((go_at_call 50;(with_reducible refine (hrf _ ?hT).mono ?_);(case hT=>exact HT.out.below ((((Below.refl w.heap.size w).alloc zn _).alloc ZH2 _)));rintro e1 w1 ⟨rfl,hb1⟩;have hk1:=(Below.refl (w.heap.size+2) _).next hb1 ZH2;obtain⟨c0,c1,c2,c3,c4,z0,z1,z2,z3,y0,y1,y2,y3,hw1,hs1⟩:=Hbox.out _ hk1))
   refine bodyPost_ret (v:=.tuple #[.agg #[.slice none 0 0,.slice none 0 0,.bool false,.slice none 0 0],.int .i64 7]) (by simp[results,Tryz.results178,go_sem,z0,z1,z2,z3]) rfl ?_
   rw[Hv.out]
   exact ZA7
 ·have Hv:=zh (show aF9 r=(wr0,aQ r) by unfold aF9;rw[if_pos hf])
  have t0:(aQ r==0)=false:=by simpa using hf
  have t1:(aQ r != 0)=true:=by simpa using hf
  clear hf
  go_enter Tryz.func178,Tryz.ntmps178
  go_wp2_with ((go_at_call 50;(with_reducible refine (hrf _ ?hT).mono ?_);(case hT=>exact HT.out.below ((((Below.refl w.heap.size w).alloc zn _).alloc ZH2 _)));rintro e1 w1 ⟨rfl,hb1⟩;have hk1:=(Below.refl (w.heap.size+2) _).next hb1 ZH2;obtain⟨c0,c1,c2,c3,c4,z0,z1,z2,z3,y0,y1,y2,y3,hw1,hs1⟩:=Hbox.out _ hk1))
  refine bodyPost_ret (v:=.tuple #[.agg #[.slice none 0 0,.slice none 0 0,.bool false,.slice none 0 0],.int .i64 (aQ r)]) (by simp[results,Tryz.results178,go_sem,z0,z1,z2,z3]) rfl ?_
  rw[Hv.out]
  exact ZA7
def bJ (h j:Nat) (s:Rdr):List UInt8 × Rdr:=if h / 2 ^ j % 2=1 then aZ s else ([],s)
def aW (h:Nat) (s:Rdr):Nat→Rdr
 | 0=>s
 | j+1=>(bJ h j (aW h s j)).2
def fAt (h:Nat) (s:Rdr) (j:Nat):List UInt8:=(bJ h j (aW h s j)).1
def fUp (h:Nat) (s:Rdr) (j i:Nat):List UInt8:=if i<j then fAt h s i else []
def rqS (k h:Nat) (s:Rdr):Rq:=⟨k,fAt h s 0,fAt h s 1,fAt h s 2,fAt h s 3⟩
def rq0:Rq:=⟨0,[],[],[],[]⟩
def aK7 (k h:Nat) (s:Rdr):Rq × Int :=
 if (aW h s 4).2=true then (rq0,14) else if 0<(aW h s 4).1.length then (rq0,4) else if aQ (rqS k h s)≠0 then (rq0,aQ (rqS k h s)) else (rqS k h s,0)
def aM2 (b:List UInt8):Rq × Int :=
 if 4000<b.length then (rq0,1) else if b.length=0 then (rq0,14) else
 if ¬ (1≤(b.getD 0 0).toNat∧(b.getD 0 0).toNat≤8) then (rq0,5) else aK7 (b.getD 0 0).toNat (bO (b.getD 0 0).toNat) (b.drop 1,false)
theorem aI2 {h j:Nat} {s:Rdr} (hs:s.2=true):(bJ h j s).2.2=true:=by
 unfold bJ
 split
 ·exact cG6 hs
 ·exact hs
theorem aJ4 {h:Nat} {s:Rdr} {j:Nat} (hj:j≤4) (hs:(aW h s j).2=true):(aW h s 4).2=true:=by
 rcases (by omega:j=0∨j=1∨j=2∨j=3∨j=4) with rfl|rfl|rfl|rfl|rfl
 ·exact aI2 (aI2 (aI2 (aI2 hs)))
 ·exact aI2 (aI2 (aI2 hs))
 ·exact aI2 (aI2 hs)
 ·exact aI2 hs
 ·exact hs
theorem aJ5 {q:List UInt8} (h1:1≤q.length) (h2:1+(q.getD 0 0).toNat≤q.length):aZ (q,false)=((q.drop 1).take (q.getD 0 0).toNat,(q.drop (1+(q.getD 0 0).toNat),false)):=by
 have hb:=cR5 (b:=q) (n:=0) AO
 rw[List.drop_zero] at hb
 unfold aZ
 rw[hb]
 dsimp only
 rw[bQ4 (show (q.getD 0 0).toNat≤(q.drop 1).length by rw[List.length_drop];omega),List.drop_drop]
theorem aC2 {q:List UInt8} (h:q.length=0∨q.length<1+(q.getD 0 0).toNat):(aZ (q,false)).2.2=true:=by
 by_cases h1:1≤q.length
 ·have hb:=cR5 (b:=q) (n:=0) AO
  rw[List.drop_zero] at hb
  unfold aZ
  rw[hb]
  exact take_no (.inr (by rw[List.length_drop];dsimp only;omega))
 ·have hb:bB (q,false)=(0,(q,true)):=byte_no (.inl (show q=[] from List.eq_nil_of_length_eq_zero AO))
  unfold aZ
  rw[hb]
  exact bD5 rfl _
theorem bR0 (h:Nat) (s:Rdr):∀ j,(aW h s j).1.length≤s.1.length
 | 0=>zn
 | j+1=>by
  have:=bR0 h s j
  show (bJ h j (aW h s j)).2.1.length≤_
  unfold bJ
  split
  ·exact Nat.le_trans (bD6 _) this
  ·exact this
theorem aK3 {S:Nat→Prop} {w:World} {X:Option Addr} {q:List UInt8} (h:Bs S w X q) (h1:1≤q.length):∃ g off,X=some ⟨g,off,none⟩∧w.cell? ⟨g,off,none⟩=some (.int .u8 ((q.getD 0 0).toNat:Int)):=by
 obtain⟨g,off,e,_,_,hc⟩:=h.bat (k:=0) AO
 refine⟨g,off,e,?_⟩
 rw[Nat.add_zero] at hc
 rw[hc,List.getD_eq_getElem?_getD,List.getElem?_eq_getElem AO]
 rfl
theorem aP1 (w:World) (A:Option Addr) (n:Nat) (a:List UInt8) (hl:n=a.length) (c:Nat) (ha:Bs All w A a) (hn:a.length≤big) :
  Calls Tryz.prog 49 #[.slice A n c] w (aT3 1 bI0 w a):=by
 subst hl
 exact bA2 w A a c ha hn
theorem aI7 {S:Nat→Prop} {w:World} {A:Option Addr} {l:List UInt8} (h:Bs S w A l) (i:Nat):Bs S w (Option.map (fun x=>x.add i) A) (l.drop i):=by
 have:=aN5 h i (l.length - i)
 rwa [List.take_of_length_le ZF5] at this
theorem aZ8 {S:Nat→Prop} {w:World} {A:Option Addr} {l:List UInt8} (h:Bs S w A l) (c n:Nat) (hc:l.length≤c):Bs S w (if c=n then A else Option.map (fun x=>x.add n) A) (l.drop n):=by
 by_cases hcn:c=n
 ·rw[if_pos hcn,List.drop_eq_nil_of_le AO]
  exact SL.nil
 ·rw[if_neg hcn]
  exact aI7 h n
theorem aZ9 {S:Nat→Prop} {w:World} {g o:Nat} {q:List UInt8} (h:Bs S w (some ⟨g,o,none⟩) q) (c i:Nat) (hc:q.length≤c):Bs S w (if c=i then some ⟨g,o,none⟩ else some ⟨g,o+i,none⟩) (q.drop i):=by
 by_cases hci:c=i
 ·rw[List.drop_eq_nil_of_le AO]
  exact SL.nil
 ·rw[if_neg hci]
  have h2:=aI7 h i
  rw[Option.map_some,bC] at h2
  exact h2
theorem bJ9 {S:Nat→Prop} {w:World} {g o:Nat} {q:List UInt8} (h:Bs S w (some ⟨g,o,none⟩) q) (c i n:Nat) (hc:q.length≤c):Bs S w (if c=i then some ⟨g,o,none⟩ else some ⟨g,o+i,none⟩) ((q.drop i).take n):=by
 by_cases hci:c=i
 ·rw[List.drop_eq_nil_of_le AO,List.take_nil]
  exact SL.nil
 ·rw[if_neg hci]
  have h2:=aN5 h i n
  rw[Option.map_some,bC] at h2
  exact h2
structure DRq (w:World) (k h:Nat) (s:Rdr) (j:Nat) (v:Value) (wr:World):Prop where
 long:(aW h s j).2=false
 rest:∃ X c,v=.slice X (aW h s j).1.length c∧(aW h s j).1.length≤c∧Bs (Lo w.heap.size) wr X (aW h s j).1
 box:∃ A a B b C c D d,wr.heap[w.heap.size+1]?=some (.cells #[.int .i64 k,.slice A (fUp h s j 0).length a,.slice B (fUp h s j 1).length b,.slice C (fUp h s j 2).length c,.slice D (fUp h s j 3).length d] 48 (0,0)) ∧
  Bs (aB (w.heap.size+2)) wr A (fUp h s j 0)∧Bs (aB (w.heap.size+2)) wr B (fUp h s j 1)∧Bs (aB (w.heap.size+2)) wr C (fUp h s j 2)∧Bs (aB (w.heap.size+2)) wr D (fUp h s j 3)
 res:wr.heap[w.heap.size]?=some (.cells #[.int .i64 0,.slice none 0 0,.slice none 0 0,.slice none 0 0,.slice none 0 0] 48 (0,0))
 bel:Below w.heap.size w wr
 siz:w.heap.size+2≤wr.heap.size
def bR1 (w:World) (r:Rq × Int) (e:Ending) (w':World):Prop :=
 ∃ A a B b C c D d,e=.returned (.tuple #[.agg #[.int .i64 r.1.kind,.slice A r.1.name.length a,.slice B r.1.key.length b,.slice C r.1.last.length c,.slice D r.1.value.length d],.int .i64 r.2])∧Bs (aB w.heap.size) w' A r.1.name∧Bs (aB w.heap.size) w' B r.1.key∧Bs (aB w.heap.size) w' C r.1.last∧Bs (aB w.heap.size) w' D r.1.value∧Below w.heap.size w w'
end Go.Proofs.YtablgnacmpcfeaaGreatDoor
