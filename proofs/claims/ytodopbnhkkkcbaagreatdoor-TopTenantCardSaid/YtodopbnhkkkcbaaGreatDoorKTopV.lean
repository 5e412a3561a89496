/- TopV: Walks: forest.Verify and ForestVerified. The proofs may be. A proof that is made of pairs holds against their root, and tells what is there; so does one of a forest. Plain words, no program. What a server that has nothing proves. Plain words, no program. What a proof that a script asks for tells, and that it holds. Plain words, no program. The conditions of each are in its words. -/
import Derived.Test.YtodopbnhkkkcbaaGreatDoorKVer
import Derived.Test.YtodopbnhkkkcbaaGreatDoorKForest
import Derived.Test.YtodopbnhkkkcbaaGreatDoorKFPv
import Derived.Test.YtodopbnhkkkcbaaGreatDoorKTopW
import Derived.Test.YtodopbnhkkkcbaaGreatDoorKSrvU
namespace Go.Proofs.YtodopbnhkkkcbaaGreatDoor
open Go.RowKit
set_option linter.unusedVariables false
set_option linter.unusedSimpArgs false
set_option maxRecDepth 100000
set_option maxHeartbeats 8000000
def fvS (r n k:List UInt8) (p q:Pf):Finding × Int :=
 if aI n≠0 then ((false,[]),aI n) else if (dM6 r n p).2≠0 then ((false,[]),(dM6 r n p).2) else dM6 (if (dM6 r n p).1.1 then (dM6 r n p).1.2 else noneS) k q
theorem dM8 (w:World) (o1 o2 o3:Obj):(((w.alloc o1).alloc o2).alloc o3).heap[w.heap.size]?=some o1∧(((w.alloc o1).alloc o2).alloc o3).heap[w.heap.size+1]?=some o2∧(((w.alloc o1).alloc o2).alloc o3).heap[w.heap.size+1+1]?=some o3∧(((w.alloc o1).alloc o2).alloc o3).heap.size=w.heap.size+3∧Below w.heap.size w (((w.alloc o1).alloc o2).alloc o3):=by
 have e0:(w.alloc o1).heap.size=w.heap.size+1:=by simp
 have e1:((w.alloc o1).alloc o2).heap.size=w.heap.size+1+1:=by simp
 have x1:=dK3 w o1
 have x2:=dK3 (w.alloc o1) o2
 have x3:=dK3 ((w.alloc o1).alloc o2) o3
 rw[e0] at x2
 rw[e1] at x3
 refine⟨?_,?_,x3,by simp,(((Below.refl _ _).alloc zn _).alloc ZH2 _).alloc ZC8 _⟩
 ·rw[dK2 _ _ (by rw[e1];omega),dK2 _ _ (by rw[e0];omega)];exact x1
 ·rw[dK2 _ _ (by rw[e1];omega)];exact x2
theorem set2a {w w':World} (h:Below w.heap.size w w') {g i j:Nat} (hg:w.heap.size≤g) {a b:Value} {o:Obj}:Below w.heap.size w (((w'.setCell ⟨g,i,none⟩ a).setCell ⟨g,j,none⟩ b).alloc o) :=
 ((h.setCell hg _).setCell hg _).alloc ((h.setCell (p:=⟨g,i,none⟩) hg a).setCell (p:=⟨g,j,none⟩) hg b).size _
theorem dM9 (w:World) (hT:bD w) (R N K Ap Kp Vp Aq Kq Vq:Option Addr) (r n k:List UInt8) (p q:Pf) (rc nc kc np ap bp nq aq bq:Nat) (hr:Bs All w R r) (hn:Bs All w N n) (hk:Bs All w K k) (h1p:Sts All w Ap p.steps) (h2p:Bs All w Kp p.pair.1) (h3p:Bs All w Vp p.pair.2) (hstp:p.steps.length*40≤140737488355328) (hl1p:p.pair.1.length≤big) (hl2p:p.pair.2.length≤big) (h1q:Sts All w Aq q.steps) (h2q:Bs All w Kq q.pair.1) (h3q:Bs All w Vq q.pair.2) (hstq:q.steps.length*40≤140737488355328) (hl1q:q.pair.1.length≤big) (hl2q:q.pair.2.length≤big) (hnb:n.length≤big) :
  Calls Tryz.prog 17 #[.slice R r.length rc,.slice N n.length nc,.slice K k.length kc,.agg #[.bool p.empty,.slice Ap p.steps.length np,.slice Kp p.pair.1.length ap,.slice Vp p.pair.2.length bp],.agg #[.bool q.empty,.slice Aq q.steps.length nq,.slice Kq q.pair.1.length aq,.slice Vq q.pair.2.length bq]] w (RetGet w (fvS r n k p q)):=by
 have HT:=zh hT
 have Hr:=zh hr
 have Hn:=zh hn
 have Hk:=zh hk
 have H1p:=zh h1p
 have H2p:=zh h2p
 have H3p:=zh h3p
 have H1q:=zh h1q
 have H2q:=zh h2q
 have H3q:=zh h3q
 have Hb:=zh (fun (W:World) (hW:Below (w.heap.size+3) (((w.alloc (.cells #[.bool p.empty,.slice Ap p.steps.length np,.slice Kp p.pair.1.length ap,.slice Vp p.pair.2.length bp] 46)).alloc (.cells #[.bool q.empty,.slice Aq q.steps.length nq,.slice Kq q.pair.1.length aq,.slice Vq q.pair.2.length bq] 46)).alloc (.cells #[.bool false,.slice none 0 0] 50)) W)=>show (W.cell? ⟨w.heap.size,0,none⟩=some (.bool p.empty)∧W.cell? ⟨w.heap.size,1,none⟩=some (.slice Ap p.steps.length np)∧W.cell? ⟨w.heap.size,2,none⟩=some (.slice Kp p.pair.1.length ap)∧W.cell? ⟨w.heap.size,3,none⟩=some (.slice Vp p.pair.2.length bp)∧True)∧(W.cell? ⟨w.heap.size+1,0,none⟩=some (.bool q.empty)∧W.cell? ⟨w.heap.size+1,1,none⟩=some (.slice Aq q.steps.length nq)∧W.cell? ⟨w.heap.size+1,2,none⟩=some (.slice Kq q.pair.1.length aq)∧W.cell? ⟨w.heap.size+1,3,none⟩=some (.slice Vq q.pair.2.length bq)∧True)∧(W.cell? ⟨w.heap.size+1+1,0,none⟩=some (.bool false)∧W.cell? ⟨w.heap.size+1+1,1,none⟩=some (.slice none 0 0)∧¬ W.frozen? ⟨w.heap.size+1+1,0,none⟩=true∧¬ W.frozen? ⟨w.heap.size+1+1,1,none⟩=true)∧Below w.heap.size w W∧w.heap.size<W.heap.size∧w.heap.size+1<W.heap.size∧w.heap.size+1+1<W.heap.size from by
  obtain⟨t1,t2,t3,t4,t5⟩:=dM8 w (.cells #[.bool p.empty,.slice Ap p.steps.length np,.slice Kp p.pair.1.length ap,.slice Vp p.pair.2.length bp] 46) (.cells #[.bool q.empty,.slice Aq q.steps.length nq,.slice Kq q.pair.1.length aq,.slice Vq q.pair.2.length bq] 46) (.cells #[.bool false,.slice none 0 0] 50)
  obtain⟨z0,z1,z2,z3,_⟩:=aF3 ((hW.block w.heap.size AO).trans t1)
  obtain⟨y0,y1,y2,y3,_⟩:=aF3 ((hW.block (w.heap.size+1) AO).trans t2)
  obtain⟨x0,x1,x2,x3⟩:=bF ((hW.block (w.heap.size+1+1) AO).trans t3)
  have hs:=hW.size
  exact⟨⟨z0,z1,z2,z3,trivial⟩,⟨y0,y1,y2,y3,trivial⟩,⟨x0,x1,by simp[x2],by simp[x3]⟩,t5.trans (hW.mono AO),AO,by omega,AO⟩)
 clear hr hn hk h1p h2p h3p h1q h2q h3q hT
 obtain⟨nf,hnf⟩:∃ nf,aI n=nf:=⟨_,rfl⟩
 have Hnf:=zh hnf
 by_cases hz:nf=0
 ·subst hz
  obtain⟨⟨fb,fv⟩,e,hv⟩:∃ (f:Finding) (e:Int),dM6 r n p=(f,e):=⟨_,_,rfl⟩
  have Hv:=zh hv
  by_cases he:e=0
  ·subst he
   cases fb with
   | true =>
    obtain⟨g,i,hg⟩:∃ (g:Finding) (i:Int),dM6 fv k q=(g,i):=⟨_,_,rfl⟩
    have Hg:=zh hg
    have Hf:=zh (show fvS r n k p q=(g,i) by unfold fvS;rw[if_neg (by rw[hnf];simp),hv,if_neg ZH2];exact hg)
    clear hnf hv hg
    go_enter Tryz.func17,Tryz.ntmps17
    go_wp2_with (first
     | (go_at_call 34;refine (aA3 _ N n nc).mono ?_;rintro e0 w0 ⟨rfl,rfl⟩;rw[Hnf.out])
     | (go_at_call 35;(with_reducible refine (dM7 _ ?t0 R N Ap Kp Vp r n p rc nc np ap bp ?t1 ?t2 ?t3 ?t4 ?t5 hstp hl1p hl2p).mono ?_);(case t0=>(refine HT.out.below ?_;exact BX));(case t1=>(refine Hr.out.bbelow ?_;exact BX));(case t2=>(refine Hn.out.bbelow ?_;exact BX));(case t3=>(refine H1p.out.below stR_stays ?_;exact BX));(case t4=>(refine H2p.out.bbelow ?_;exact BX));(case t5=>(refine H3p.out.bbelow ?_;exact BX));rw[Hv.out];rintro e1 w1 ⟨F,fc,rfl,hsf,hb1'⟩;have hb1:=hb1'.mono (show w.heap.size+3≤_ by simp);obtain⟨⟨p01,p11,p21,p31,_⟩,⟨q01,q11,q21,q31,_⟩,⟨f01,f11,f21,f31⟩,hq1,hl1a,hl1b,hl1c⟩:=Hb.out w1 hb1)
     | (go_at_call 35;(with_reducible refine (dM7 _ ?t0 F K Aq Kq Vq fv k q fc kc nq aq bq ?t1 ?t2 ?t3 ?t4 ?t5 hstq hl1q hl2q).mono ?_);(case t0=>(refine HT.out.below ?_;first|exact hq1.alloc hq1.size _|exact (Below.refl _ _).alloc zn _));(case t1=>(refine (hsf.bbelow ?_).bz;first|exact hq1.alloc hq1.size _|exact (Below.refl _ _).alloc zn _));(case t2=>(refine Hk.out.bbelow ?_;first|exact hq1.alloc hq1.size _|exact (Below.refl _ _).alloc zn _));(case t3=>(refine H1q.out.below stR_stays ?_;first|exact hq1.alloc hq1.size _|exact (Below.refl _ _).alloc zn _));(case t4=>(refine H2q.out.bbelow ?_;first|exact hq1.alloc hq1.size _|exact (Below.refl _ _).alloc zn _));(case t5=>(refine H3q.out.bbelow ?_;first|exact hq1.alloc hq1.size _|exact (Below.refl _ _).alloc zn _));rw[Hg.out];rintro e2 w2 ⟨G,gc,rfl,hsg,hb2'⟩;have hb2:=(hb1.alloc AO _).next hb2' ZC8;obtain⟨⟨p02,p12,p22,p32,_⟩,⟨q02,q12,q22,q32,_⟩,⟨f02,f12,f22,f32⟩,hq2,hl2a,hl2b,hl2c⟩:=Hb.out w2 hb2))
    all_goals
     refine bodyPost_ret (v:=.tuple #[.agg #[.bool g.1,.slice G g.2.length gc],.int .i64 i]) (by simp[results,Tryz.results17,go_sem,f02,f12,hl2c]) rfl ?_
     rw[Hf.out]
     refine⟨G,gc,rfl,?_,?_⟩
     ·exact ZA9
     ·exact (hq2.setCell ZC5 _).setCell ZC5 _
   | false =>
    obtain⟨g,i,hg⟩:∃ (g:Finding) (i:Int),dM6 noneS k q=(g,i):=⟨_,_,rfl⟩
    have Hg:=zh hg
    have Hf:=zh (show fvS r n k p q=(g,i) by unfold fvS;rw[if_neg (by rw[hnf];simp),hv,if_neg ZH2];exact hg)
    clear hnf hv hg
    go_enter Tryz.func17,Tryz.ntmps17
    go_wp2_with (first
     | (go_at_call 34;refine (aA3 _ N n nc).mono ?_;rintro e0 w0 ⟨rfl,rfl⟩;rw[Hnf.out])
     | (go_at_call 35;(with_reducible refine (dM7 _ ?t0 R N Ap Kp Vp r n p rc nc np ap bp ?t1 ?t2 ?t3 ?t4 ?t5 hstp hl1p hl2p).mono ?_);(case t0=>(refine HT.out.below ?_;exact BX));(case t1=>(refine Hr.out.bbelow ?_;exact BX));(case t2=>(refine Hn.out.bbelow ?_;exact BX));(case t3=>(refine H1p.out.below stR_stays ?_;exact BX));(case t4=>(refine H2p.out.bbelow ?_;exact BX));(case t5=>(refine H3p.out.bbelow ?_;exact BX));rw[Hv.out];rintro e1 w1 ⟨F,fc,rfl,hsf,hb1'⟩;have hb1:=hb1'.mono (show w.heap.size+3≤_ by simp);obtain⟨⟨p01,p11,p21,p31,_⟩,⟨q01,q11,q21,q31,_⟩,⟨f01,f11,f21,f31⟩,hq1,hl1a,hl1b,hl1c⟩:=Hb.out w1 hb1)
     | (go_at_call 36;(with_reducible refine (dM4 _ ?t0).mono ?_);(case t0=>exact HT.out.below (hq1.alloc hq1.size _));rintro e3 w3 ⟨F3,fc3,rfl,hs3,hb3'⟩;have hb3:=(hb1.alloc AO _).next hb3' ZC8;obtain⟨⟨p03,p13,p23,p33,_⟩,⟨q03,q13,q23,q33,_⟩,⟨f03,f13,f23,f33⟩,hq3,hl3a,hl3b,hl3c⟩:=Hb.out w3 hb3;have hx3:=(hb3'.block w1.heap.size ZH2).trans (aK w1 _ _);obtain⟨x0,x1,_,_⟩:=bF hx3;have hlx:=(Array.getElem?_eq_some_iff.1 hx3).1;have hq4:∀ v,Below w.heap.size w (w3.setCell ⟨w1.heap.size,1,none⟩ v):=(fun v=>hq3.setCell (show w.heap.size≤w1.heap.size from AO) v);have hb4:∀ v,Below (w.heap.size+3) _ (w3.setCell ⟨w1.heap.size,1,none⟩ v):=(fun v=>hb3.setCell (show w.heap.size+3≤w1.heap.size from AO) v);have hs4:∀ v,Bs All (w3.setCell ⟨w1.heap.size,1,none⟩ v) F3 noneS:=(fun v=>(hs3.bsame ((aC.refl _ _).setCell (p:=⟨w1.heap.size,1,none⟩) (show ¬ aB (w1.alloc (.cells #[.bool false,.slice F fv.length fc] 50)).heap.size w1.heap.size by (simp[aB])) v)).bz))
     | (go_at_call 35;(with_reducible refine (dM7 _ ?t0 F3 K Aq Kq Vq noneS k q fc3 kc nq aq bq ?t1 ?t2 ?t3 ?t4 ?t5 hstq hl1q hl2q).mono ?_);(case t0=>(refine HT.out.below ?_;exact hq4 _));(case t1=>exact hs4 _);(case t2=>(refine Hk.out.bbelow ?_;exact hq4 _));(case t3=>(refine H1q.out.below stR_stays ?_;exact hq4 _));(case t4=>(refine H2q.out.bbelow ?_;exact hq4 _));(case t5=>(refine H3q.out.bbelow ?_;exact hq4 _));rw[Hg.out];rintro e2 w2 ⟨G,gc,rfl,hsg,hb2'⟩;have hb2:=(hb4 _).next hb2' ZC8;obtain⟨⟨p02,p12,p22,p32,_⟩,⟨q02,q12,q22,q32,_⟩,⟨f02,f12,f22,f32⟩,hq2,hl2a,hl2b,hl2c⟩:=Hb.out w2 hb2))
    all_goals
     refine bodyPost_ret (v:=.tuple #[.agg #[.bool g.1,.slice G g.2.length gc],.int .i64 i]) (by simp[results,Tryz.results17,go_sem,f02,f12,hl2c]) rfl ?_
     rw[Hf.out]
     refine⟨G,gc,rfl,?_,?_⟩
     ·exact ZA9
     ·exact (hq2.setCell ZC5 _).setCell ZC5 _
  ·have Hf:=zh (show fvS r n k p q=((false,[]),e) by unfold fvS;rw[if_neg (by rw[hnf];simp),hv,if_pos (by simpa using he)])
   have hb:(e != 0)=true:=by simpa using he
   clear hnf hv
   go_enter Tryz.func17,Tryz.ntmps17
   go_wp2_with (first
    | (go_at_call 34;refine (aA3 _ N n nc).mono ?_;rintro e0 w0 ⟨rfl,rfl⟩;rw[Hnf.out])
    | (go_at_call 35;(with_reducible refine (dM7 _ ?t0 R N Ap Kp Vp r n p rc nc np ap bp ?t1 ?t2 ?t3 ?t4 ?t5 hstp hl1p hl2p).mono ?_);(case t0=>(refine HT.out.below ?_;exact BX));(case t1=>(refine Hr.out.bbelow ?_;exact BX));(case t2=>(refine Hn.out.bbelow ?_;exact BX));(case t3=>(refine H1p.out.below stR_stays ?_;exact BX));(case t4=>(refine H2p.out.bbelow ?_;exact BX));(case t5=>(refine H3p.out.bbelow ?_;exact BX));rw[Hv.out];rintro e1 w1 ⟨F,fc,rfl,hsf,hb1'⟩;have hb1:=hb1'.mono (show w.heap.size+3≤_ by simp);obtain⟨⟨p01,p11,p21,p31,_⟩,⟨q01,q11,q21,q31,_⟩,⟨f01,f11,f21,f31⟩,hq1,hl1a,hl1b,hl1c⟩:=Hb.out w1 hb1))
   all_goals
    refine bodyPost_ret (v:=.tuple #[.agg #[.bool false,.slice none 0 0],.int .i64 e]) (by simp[results,Tryz.results17,go_sem,f01,f11,hl1c]) rfl ?_
    rw[Hf.out]
    exact⟨none,0,rfl,SL.nil,by first|assumption|exact set2a hq1 AO|exact (((Below.refl _ _).alloc zn _).alloc ZH2 _).alloc ZC8 _⟩
 ·have Hf:=zh (show fvS r n k p q=((false,[]),nf) by unfold fvS;rw[if_pos (by rw[hnf];exact hz),hnf])
  have hb:(nf != 0)=true:=by simpa using hz
  clear hnf
  go_enter Tryz.func17,Tryz.ntmps17
  go_wp2_with (go_at_call 34;refine (aA3 _ N n nc).mono ?_;rintro e0 w0 ⟨rfl,rfl⟩;rw[Hnf.out])
  all_goals
   refine bodyPost_ret (v:=.tuple #[.agg #[.bool false,.slice none 0 0],.int .i64 nf]) (by simp[results,Tryz.results17,go_sem]) rfl ?_
   rw[Hf.out]
   exact⟨none,0,rfl,SL.nil,by first|assumption|exact set2a hq1 AO|exact (((Below.refl _ _).alloc zn _).alloc ZH2 _).alloc ZC8 _⟩
theorem dN0 {a b:List UInt8} {e:Nat}:∀ n k,aF7 a b n k=(e:Int)→(∀ j,k≤j→j<e→bP a j=bP b j)∧k≤e
 | 0,k,h=>by
  unfold aF7 at h
  omega
 | n+1,k,h=>by
  unfold aF7 at h
  split at h
  ·rename_i hk
   obtain⟨h1,h2⟩:=dN0 n (k+1) h
   refine⟨fun j hj he=>?_,AO⟩
   by_cases hjk:j=k
   ·subst hjk;exact hk
   ·exact h1 j AO he
  ·have:k=e:=by omega
   subst this
   exact⟨fun j hj he=>by omega,zn⟩
def dN1 (l:List Pr) (q:Int):Prop:=∀ i j (hi:i<l.length) (hj:j<l.length) (n:Nat),(n:Int)≤q→bP l[i].1 n=bP l[j].1 n
section
variable {l : List Pr} {d : Nat}
theorem dN2 (h:Parts l d):∀ i (hi:i<l.length) (h0:0<l.length) n,n<d→bP l[0].1 n=bP l[i].1 n:=by
 intro i hi h0 n hn
 by_cases hi0:i=0
 ·subst hi0;rfl
 ·obtain⟨e,he,_,hf⟩:=h.least i hi AO
  exact (dN0 145 0 hf).1 n AO AO
theorem dN3 {q:Int} (h:Parts l d) (h2:2≤l.length) (ha:dN1 l q):q<(d:Int):=by
 rcases Int.lt_or_le q d with h1|h1
 ·exact h1
 ·have:=ha 0 (l.length - 1) AO AO d h1
  rw[h.first AO,h.end' AO] at this
  cases this
theorem dN4 (h:Parts l d) (h2:2≤l.length):dN1 (l.take (aU l)) d:=by
 obtain⟨g1,g2,g3⟩:=aW9 h h2
 intro i j hi hj n hn
 simp only[List.length_take] at hi hj
 rw[List.getElem_take,List.getElem_take]
 by_cases hd:n=d
 ·subst hd
  rw[g3 i AO,g3 j AO,decide_eq_false AO,decide_eq_false AO]
 ·rw[← dN2 h i AO AO n AO,← dN2 h j AO AO n AO]
theorem dN5 (h:Parts l d) (h2:2≤l.length):dN1 (l.drop (aU l)) d:=by
 obtain⟨g1,g2,g3⟩:=aW9 h h2
 intro i j hi hj n hn
 simp only[List.length_drop] at hi hj
 rw[List.getElem_drop,List.getElem_drop]
 by_cases hd:n=d
 ·subst hd
  rw[g3 (aU l+i) AO,g3 (aU l+j) AO,decide_eq_true AO,decide_eq_true AO]
 ·rw[← dN2 h (aU l+i) AO AO n AO,← dN2 h (aU l+j) AO AO n AO]
theorem dN6 (h:Parts l d) (h2:2≤l.length) {p:Pr} (hp:p ∈ l.take (aU l)):bP p.1 d=false:=by
 obtain⟨g1,g2,g3⟩:=aW9 h h2
 obtain⟨i,hi,rfl⟩:=List.getElem_of_mem hp
 simp only[List.length_take] at hi
 rw[List.getElem_take,g3 i AO,decide_eq_false AO]
theorem dN7 (h:Parts l d) (h2:2≤l.length) {p:Pr} (hp:p ∈ l.drop (aU l)):bP p.1 d=true:=by
 obtain⟨g1,g2,g3⟩:=aW9 h h2
 obtain⟨i,hi,rfl⟩:=List.getElem_of_mem hp
 simp only[List.length_drop] at hi
 rw[List.getElem_drop,g3 _ AO,decide_eq_true AO]
theorem dN8 (n:Nat) {p:Pr} (hp:p ∈ l):p ∈ l.take n∨p ∈ l.drop n:=by
 rw[← List.take_append_drop n l] at hp
 exact List.mem_append.1 hp
end
def dO8 (k p:List UInt8):Int→List St→Prop
 | _,[]=>True
 | q,s :: t=>dG4 k p q s=false∧dO8 k p s.bit t
theorem dN9 {k p:List UInt8}:∀ (l:List St) (q:Int),dO8 k p q l→∀ i (h:i<l.length),dG4 k p (if i=0 then q else (l.getD (i - 1) ⟨0,false,[]⟩).bit) l[i]=false
 | [],_,_,i,h=>absurd h ZH2
 | s :: t,q,hg,i,h=>by
  obtain⟨h1,h2⟩:=hg
  match i,h with
  | 0,_=>exact h1
  | 1,h=>exact dN9 t s.bit h2 0 (by simp at h;omega)
  | i+2,h=>exact dN9 t s.bit h2 (i+1) (by simp at h;omega)
theorem dO0 {k p:List UInt8} {l:List St} (h:dO8 k p (-1) l):dG7 k p l=0:=by
 refine aN9 _ _ fun i hi=>?_
 rw[Nat.zero_add,dH1 k p hi]
 have:=dN9 l (-1) h i hi
 unfold dG5
 rw[this]
 rfl
theorem dO9 (k:List UInt8) (n:Nat) (p:Pr) (q:Int):∃ p',(aK8 k n [p]).2=[p']∧p' ∈ [p]∧dO8 k p'.1 q (aK8 k n [p]).1∧(aK8 k n [p]).1.foldr dL3 (bX0 p')=bK [p]∧(∀ x ∈ [p],x.1=k→p'.1=k):=by
 have e:aK8 k n [p]=([],[p]):=path_one ZH2
 have hr:bK [p]=bX0 p:=root_one rfl
 rw[e,hr]
 refine⟨p,rfl,by simp,?_,?_,fun x hx hk=>by rw[List.mem_singleton] at hx;rw[← hx];exact hk⟩
 ·unfold dO8;trivial
 ·rw[List.foldr_nil]
theorem dO1 (k:List UInt8):∀ (n:Nat) (l:List Pr) (q:Int),aT6 l→1≤l.length→l.length≤n+1→dN1 l q→-1≤q→∃ p,(aK8 k n l).2=[p]∧p ∈ l∧dO8 k p.1 q (aK8 k n l).1∧(aK8 k n l).1.foldr dL3 (bX0 p)=bK l∧(∀ x ∈ l,x.1=k→p.1=k):=by
 intro n
 induction n with
 | zero =>
  intro l q ht h1 h2 ha hq
  obtain⟨p,rfl⟩:∃ p,l=[p]:=List.length_eq_one_iff.1 AO
  exact dO9 k 0 p q
 | succ n ih =>
  intro l q ht h1 h2 ha hq
  by_cases h3:l.length=1
  ·obtain⟨p,rfl⟩:∃ p,l=[p]:=List.length_eq_one_iff.1 h3
   exact dO9 k (n+1) p q
  ·have h2':2≤l.length:=by omega
   obtain⟨d,hp⟩:=ht.parts h2'
   obtain⟨g1,g2,_⟩:=aW9 hp h2'
   have hab:=dN3 hp h2' ha
   have hd:=hp.d144
   cases hb:bP k d
   ·obtain⟨p,e1,e2,e3,e4,e5⟩:=ih (l.take (aU l)) d (ht.take _) ZF6 ZF6 (dN4 hp h2') AO
    rw[cV3 hp h2' hb]
    refine⟨p,e1,List.mem_of_mem_take e2,⟨?_,e3⟩,?_,fun x hx hk=>?_⟩
    ·have hpb:=dN6 hp h2' e2
     simp[dG4,hb,hpb,aR0]
     omega
    ·rw[List.foldr_cons,e4,root_two ht h2',hp.bit]
     unfold dL3
     rfl
    ·rcases dN8 (aU l) hx with h4|h4
     ·exact e5 x h4 hk
     ·have:=dN7 hp h2' h4
      rw[hk,hb] at this
      cases this
   ·obtain⟨p,e1,e2,e3,e4,e5⟩:=ih (l.drop (aU l)) d (ht.drop _) ZF5 ZF5 (dN5 hp h2') AO
    rw[cN2 hp h2' hb]
    refine⟨p,e1,List.mem_of_mem_drop e2,⟨?_,e3⟩,?_,fun x hx hk=>?_⟩
    ·have hpb:=dN7 hp h2' e2
     simp[dG4,hb,hpb,aR0]
     omega
    ·rw[List.foldr_cons,e4,root_two ht h2',hp.bit]
     unfold dL3
     rfl
    ·rcases dN8 (aU l) hx with h4|h4
     ·have:=dN6 hp h2' h4
      rw[hk,hb] at this
      cases this
     ·exact e5 x h4 hk
theorem dO2 {l:List Pr} {k:List UInt8} (h:aG l=0) (hk:aE k=0):dM6 (bK l) k (aH2 l k).1=((aX7 l k).1,0):=by
 have ht:=cA4 h
 have hpk:aD3 l k=0:=by rw[pk_of h];exact hk
 unfold aH2
 rw[if_neg (by simpa using hpk)]
 by_cases h0:l.length=0
 ·obtain rfl:=List.eq_nil_of_length_eq_zero h0
  rw[if_pos (show ([]:List Pr).length=0 from rfl)]
  have hf:dG9 k ⟨true,[],([],[])⟩=0:=by
   unfold dG9 dG8
   rw[if_neg (by simpa using hk),if_pos rfl,if_pos ZH2]
  unfold dM6
  rw[if_neg (by simpa using aR0 []),if_neg (by simpa using hf),if_neg (by rw[dM2 rfl,cU3 rfl];simp),if_pos (.inl rfl),cS9 h hk rfl]
 ·rw[if_neg h0]
  obtain⟨p,e1,e2,e3,e4,e5⟩:=dO1 k l.length l (-1) ht AO AO (fun i j _ _ n hn=>by omega) (Int.le_refl _)
  rw[e1]
  have hpf:aA5 p=0:=(aG5 h).2.1 p e2
  have hf:dG9 k ⟨false,(aK8 k l.length l).1,p⟩=0:=by
   unfold dG9 dG8
   rw[if_neg (by simpa using hk),if_neg ZH2,if_neg (by simpa using hpf)]
   exact dO0 e3
  have hu:upS ⟨false,(aK8 k l.length l).1,p⟩=bK l:=by rw[upS_full rfl];exact e4
  obtain⟨i,hi,rfl⟩:=List.getElem_of_mem e2
  show dM6 (bK l) k ⟨false,(aK8 k l.length l).1,l[i]⟩=_
  unfold dM6
  rw[if_neg (by simpa using aR0 l),if_neg (by simpa using hf),if_neg (by rw[hu];simp)]
  by_cases hpk:l[i].1=k
  ·rw[if_neg (by simp[hpk]),cJ9 h hk (cK0 ht.rise hi hpk)]
  ·rw[if_pos (.inr hpk)]
   have hn:aV6 l k=none:=by
    unfold aV6
    rw[Option.map_eq_none_iff,List.find?_eq_none]
    intro x hx hxk
    exact hpk (e5 x hx (by simpa using hxk))
   rw[cS9 h hk hn]
structure PfS (p:Pf):Prop where
 st:p.steps.length*40≤140737488355328
 k:p.pair.1.length≤big
 v:p.pair.2.length≤big
theorem dO3 (l:List Pr) (k:List UInt8):PfS (aH2 l k).1:=by
 refine⟨dI5 l k,?_,?_⟩
 all_goals
  by_cases h:aD3 l k=0
  ·obtain⟨h1,h2⟩:=bL3 h
   have ht:=cA4 h1
   unfold aH2
   rw[if_neg ZF9]
   by_cases h0:l.length=0
   ·rw[if_pos h0];exact Nat.zero_le _
   ·rw[if_neg h0]
    obtain⟨p,e1,e2,_⟩:=dO1 k l.length l (-1) ht AO AO (fun i j _ _ n hn=>by omega) (Int.le_refl _)
    rw[e1]
    have h3:=ht.k16 e2
    have h4:=ht.val p e2
    first
     | exact (show p.1.length≤big by unfold big;omega)
     | exact (show p.2.length≤big by unfold big;omega)
  ·rw[cN6 (by rw[bE0];exact h)];exact Nat.zero_le _
theorem dO4 (l:List Tn) (n k:List UInt8):PfS (fpS l n k).1.1∧PfS (fpS l n k).1.2:=by
 have h0:PfS pf0:=⟨Nat.zero_le _,Nat.zero_le _,Nat.zero_le _⟩
 unfold fpS
 split
 ·exact⟨h0,h0⟩
 ·split
  ·exact⟨h0,h0⟩
  ·exact⟨dO3 _ _,dO3 _ _⟩
theorem dO5 (l:List Tn) (n:List UInt8):aV6 (l.map aH9) n=(l.find? (·.1==n)).map fun t=>bK t.2:=by
 unfold aV6
 rw[List.find?_map,Option.map_map]
 rfl
theorem dO6 {l:List Tn} {n k:List UInt8} (h:aL l=0) (hn:aI n=0) (hk:aE k=0):fvS (bK (l.map aH9)) n k (fpS l n k).1.1 (fpS l n k).1.2=((aA7 l n k).1,0):=by
 have hfn:aD4 l n=0:=by unfold aD4;rw[if_neg ZF9];exact hn
 have hr:=bR7 h
 have hnk:=(bR6 hn).1
 unfold fpS aA7
 rw[if_neg (by simpa using hfn),if_neg (by simpa using hk),if_neg (by simpa using hfn)]
 unfold fvS
 rw[if_neg (by simpa using hn),dO2 hr hnk,if_neg ZH2]
 have hp:aG (aJ l n)=0:=aN0.old h n
 have e:(if (aX7 (l.map aH9) n).1.1 then (aX7 (l.map aH9) n).1.2 else noneS)=bK (aJ l n):=by
  unfold aJ
  cases hv:l.find? (·.1==n) with
  | none=>rw[cS9 hr hnk (by rw[dO5,hv];rfl)];exact (cU3 rfl).symm
  | some t=>rw[cJ9 hr hnk (by rw[dO5,hv];rfl)];rfl
 show dM6 (if (aX7 (l.map aH9) n).1.1 then (aX7 (l.map aH9) n).1.2 else noneS) k (aH2 (aJ l n) k).1=_
 rw[e]
 exact dO2 hp hk
theorem rq_eight {r:Rq} (h:aQ r=0) (h8:r.kind=8):aI r.name=0∧aE r.key=0:=by
 unfold aQ at h
 rw[if_neg AO,h8] at h
 unfold aB4 at h
 split at h
 ·rename_i h1;exact absurd h h1
 ·rename_i h1
  rw[Decidable.not_not] at h1
  unfold aA9 at h1
  rw[if_neg ZD9] at h1
  split at h1
  ·rename_i h2;exact absurd h1 h2
  ·rename_i h2
   rw[Decidable.not_not] at h2
   split at h1
   ·rename_i h3;exact absurd h1 h3
   ·rename_i h3
    exact⟨h2,Decidable.not_not.1 h3⟩
end Go.Proofs.YtodopbnhkkkcbaaGreatDoor
