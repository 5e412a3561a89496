/- TopO: Walks: canopytop's ask and act. Walk: canopytop's script. Walk: canopytop's ran. From the form's reading of arguments to the words of Core: gears. A list appended to a row of the call's own; what is read is read from new blocks. No condition. Outcomes in their boxes; replies of an outcome: what the walks of the laws of the whole share. No condition. A row of acts that grows while outcomes stay as they are. No condition. The conditions of each are in its words. -/
import Derived.Deep.CutRange
import Derived.Test.YtablgnacmpcfeaaGreatDoorKTopP
import Derived.Test.YtablgnacmpcfeaaGreatDoorKSrvV
import Derived.Test.YtablgnacmpcfeaaGreatDoorKSrvP
import Derived.Test.YtablgnacmpcfeaaGreatDoorKOpenA
import Derived.Test.YtablgnacmpcfeaaGreatDoorKBase
namespace Go.Proofs.YtablgnacmpcfeaaGreatDoor
open Go.RowKit
set_option linter.unusedVariables false
set_option linter.unusedSimpArgs false
set_option maxRecDepth 100000
set_option maxHeartbeats 8000000
theorem enc_len (r:Rq):(bK9 r).1.length≤4000:=by
 by_cases h:aQ r=0
 ·exact (cY0 h).2
 ·unfold bK9
  rw[if_pos h]
  simp
theorem bY1 {s:Int} (hs:0≤s∧s<8) {d:List UInt8} (hd:d.length≤4000):aB6 ⟨1,s,0,d⟩=0:=by
 obtain⟨k,rfl⟩:=Int.eq_ofNat_of_zero_le hs.1
 exact cY8 AO hd
def RetAsk (w:World) (s:Int) (d:List UInt8) (e:Ending) (w':World):Prop :=
 ∃ (A:Option Addr) (c:Nat),e=.returned (.agg #[.int .i64 1,.int .i64 s,.int .i64 0,.slice A d.length c])∧d.length≤c∧Bs (aB w.heap.size) w' A d∧Below w.heap.size w w'
theorem dE2 (w:World) (hH:bL w) (s:Int) (hs:0≤s∧s<8) (A B C D:Option Addr) (r:Rq) (a b c d:Nat) (hA:Bs All w A r.name) (hB:Bs All w B r.key) (hC:Bs All w C r.last) (hD:Bs All w D r.value) :
  Calls Tryz.prog 19 #[.int .i64 s,.agg #[.int .i64 r.kind,.slice A r.name.length a,.slice B r.key.length b,.slice C r.last.length c,.slice D r.value.length d]] w (RetAsk w s (bK9 r).1):=by
 have HH:=zh hH
 have RA:=zh hA
 have RB:=zh hB
 have RC:=zh hC
 have RD:=zh hD
 obtain⟨q,qe,hq⟩:∃ q qe,bK9 r=(q,qe):=⟨_,_,rfl⟩
 have Hq:=zh hq
 have hql:q.length≤4000:=by have:=enc_len r;rw[hq] at this;exact this
 obtain⟨t1,t2,t3,t4⟩:=aM6 w (.cells #[.int .i64 r.kind,.slice A r.name.length a,.slice B r.key.length b,.slice C r.last.length c,.slice D r.value.length d] 48) (.cells #[.int .i64 0,.int .i64 0,.int .i64 0,.slice none 0 0] 46)
 have T2:=zh t2
 have T4:=zh t4
 have T3:=zh t3
 rw[show (bK9 r).1=q by rw[hq]]
 clear hH hA hB hC hD hq t1 t2 t3 t4
 go_enter Tryz.func19,Tryz.ntmps19
 go_wp2_with (go_at_call 47;(with_reducible refine (bS6 _ ?hT A B C D r a b c d ?h1 ?h2 ?h3 ?h4).mono ?_);(case hT=>exact HH.out.below T4.out);(case h1=>exact RA.out.bbelow T4.out);(case h2=>exact RB.out.bbelow T4.out);(case h3=>exact RC.out.bbelow T4.out);(case h4=>exact RD.out.bbelow T4.out);rw[Hq.out];rintro e1 w1 ⟨A1,c1,rfl,hc1,hs1,hb1⟩;have hx:=(hb1.block (w.heap.size+1) (by rw[T3.out];omega)).trans T2.out;have r0:=aA hx 0;have r1:=aA hx 1;have r2:=aA hx 2;have r3:=aA hx 3;have f0:=aD hx 0;have f1:=aD hx 1;have f2:=aD hx 2;have f3:=aD hx 3;simp only[List.getElem?_cons_zero,List.getElem?_cons_succ] at r0 r1 r2 r3;have hw1:Below w.heap.size w w1:=T4.out.next hb1 T4.out.size;have HW1:=zh hw1;have S1:=zh (show Bs (aB (w.heap.size+2)) w1 A1 q from hs1.blo (by rw[T3.out];exact zn));clear hb1 hs1 hx hw1)
 refine bodyPost_ret (v:=.agg #[.int .i64 1,.int .i64 s,.int .i64 0,.slice A1 q.length c1]) (by simp[results,Tryz.results19,go_sem,r0,r1,r2,r3]) rfl ?_
 exact⟨A1,c1,rfl,hc1,(S1.out.bsame (((((aC.refl _ w1).setCell (p:=⟨w.heap.size+1,0,none⟩) ZC4 _).setCell (p:=⟨w.heap.size+1,1,none⟩) ZC4 _).setCell (p:=⟨w.heap.size+1,2,none⟩) ZC4 _).setCell (p:=⟨w.heap.size+1,3,none⟩) ZC4 _)).blo AO,((((HW1.out.setCell (p:=⟨w.heap.size+1,0,none⟩) (Nat.le_succ _) _).setCell (p:=⟨w.heap.size+1,1,none⟩) (Nat.le_succ _) _).setCell (p:=⟨w.heap.size+1,2,none⟩) (Nat.le_succ _) _).setCell (p:=⟨w.heap.size+1,3,none⟩) (Nat.le_succ _) _)⟩
theorem bs_twoT {S:Nat→Prop} {w:World} {A:Nat} {x y:UInt8} {t:TypeId} (h:w.heap[A]?=some (.cells #[bv x,bv y] t (0,0))) (hS:S A):Bs S w (some ⟨A,0,none⟩) [x,y]:=by
 refine fun _=>⟨A,0,rfl,hS,(Array.getElem?_eq_some_iff.1 h).1,fun i hi=>?_⟩
 have hi':i<2:=hi
 have:i=0∨i=1:=by omega
 rcases this with rfl|rfl
 ·refine⟨[bv x],rfl,fun j hj=>?_,rfl⟩
  obtain rfl:j=0:=by omega
  exact aA h 0
 ·refine⟨[bv y],rfl,fun j hj=>?_,rfl⟩
  obtain rfl:j=0:=by omega
  exact aA h 1
theorem cJ3 {p:Int} (h:0≤p∧p≤200000):aB6 ⟨3,0,p,[]⟩=0:=by
 obtain⟨k,rfl⟩:=Int.eq_ofNat_of_zero_le h.1
 exact cO5 AO
def dR0 (a:Ac):Prop:=a.kind=1→(aM2 a.data).2=0→((aM2 a.data).1.kind=4∨(aM2 a.data).1.kind=5)→Abc (aM2 a.data).1.name
theorem dR1 {a:Ac} (h:a.kind≠1):dR0 a:=fun e=>absurd e h
theorem dR2 {r:Rq} (h:aQ r=0) (hk:r.kind=4∨r.kind=5):r.name≠[]:=by
 intro e
 have:aI r.name≠0:=by rw[e];decide
 unfold aQ at h
 rw[if_neg AO] at h
 unfold aB4 aA9 at h
 rcases hk with hk|hk <;> rw[hk] at h <;> simp[bO,hasT,this] at h
theorem dec_abc {r:Rq} {s:Int} (h:aQ r=0) (hn:r.name=[]∨Abc r.name):dR0 ⟨1,s,0,(bK9 r).1⟩:=by
 intro _ _ hk
 have e:(aM2 (bK9 r).1).1=r:=by rw[(cY0 h).1]
 have hk':(aM2 (bK9 r).1).1.kind=4∨(aM2 (bK9 r).1).1.kind=5:=hk
 show Abc (aM2 (bK9 r).1).1.name
 rw[e] at hk' ⊢
 exact hn.resolve_left (dR2 h hk')
theorem fld_two (y:UInt8) (j:Nat) (h:Nat) (hj:h / 2 ^ j % 2=1):(bJ h j ([y],false)).1=[]∨(bJ h j ([y],false)).2.2=true:=by
 unfold bJ
 rw[if_pos hj]
 by_cases hy:1+([y].getD 0 0).toNat≤[y].length
 ·rw[aJ5 ZH2 hy]
  exact .inl ZH2
 ·exact .inr (aC2 (.inr AO))
theorem two_abc (s:Int) (x y:UInt8):dR0 ⟨1,s,0,[x,y]⟩:=by
 intro _ h2 hk
 have h2':(aM2 [x,y]).2=0:=h2
 have hk':(aM2 [x,y]).1.kind=4∨(aM2 [x,y]).1.kind=5:=hk
 show Abc (aM2 [x,y]).1.name
 exfalso
 obtain⟨r,hr⟩:∃ r,aM2 [x,y]=(r,0):=⟨_,Prod.ext rfl h2'⟩
 have hf:=cW7 hr
 rw[hr] at hk'
 have hk2:r.kind=4∨r.kind=5:=hk'
 have hn:=dR2 hf hk2
 unfold aM2 at hr
 rw[if_neg ZH2,if_neg ZH2] at hr
 split at hr
 ·cases hr
 ·rename_i h8
  unfold aK7 at hr
  split at hr
  ·cases hr
  ·rename_i hs
   split at hr
   ·cases hr
   ·split at hr
    ·rename_i hq;exact absurd (congrArg Prod.snd hr) hq
    ·injection hr with hr _
     have hx:(x.toNat:Int)=r.kind:=by rw[← hr];rfl
     have hh:bO x.toNat / 2 ^ 0 % 2=1:=by
      have:x.toNat=4∨x.toNat=5:=by omega
      rcases this with e|e <;> rw[e] <;> decide
     rcases fld_two y 0 _ hh with h1|h1
     ·exact hn (by rw[← hr];exact h1)
     ·exact hs (aJ4 (j:=1) AO h1)
def RetAcN (w:World) (e:Ending) (w':World):Prop :=
 ∃ (x:Ac) (A:Option Addr) (c:Nat),e=.returned (.agg #[.int .i64 x.kind,.int .i64 x.session,.int .i64 x.keep,.slice A x.data.length c])∧(aB6 x=0∧dR0 x)∧x.data.length≤c∧Bs (aB w.heap.size) w' A x.data∧Below w.heap.size w w'
theorem dR3 (w:World) (hH:bL w) (s:Int) (hs:0≤s∧s<8) (A B C D:Option Addr) (r:Rq) (a b c d:Nat) {g:Gr} (hr:ReqFine g r) (hA:Bs All w A r.name) (hB:Bs All w B r.key) (hC:Bs All w C r.last) (hD:Bs All w D r.value) :
  Calls Tryz.prog 19 #[.int .i64 s,.agg #[.int .i64 r.kind,.slice A r.name.length a,.slice B r.key.length b,.slice C r.last.length c,.slice D r.value.length d]] w (RetAcN w) :=
 (dE2 w hH s hs A B C D r a b c d hA hB hC hD).mono fun e w' ⟨A1,c1,h1,h2,h3,h4⟩=>⟨⟨1,s,0,(bK9 r).1⟩,A1,c1,h1,⟨bY1 hs (enc_len r),dec_abc hr.1 hr.2.2.1⟩,h2,h3,h4⟩
theorem dR4 (w:World) (hH:bL w) (g:Gr) (h1:aS3 g.kind) (h2:aS3 g.session) (h3:aS3 g.name) (h4:aS3 g.key) (h5:aS3 g.value) :
  Calls Tryz.prog 22 #[.agg #[.int .i64 g.kind,.int .i64 g.session,.int .i64 g.name,.int .i64 g.key,.int .i64 g.value]] w (RetAcN w):=by
 have HH:=zh hH
 obtain⟨p26,⟨hk0,hk26⟩,HK⟩:=aJ7 g.kind 26 26 rfl AO AO h1
 obtain⟨p80,⟨hp0,hp80⟩,HV⟩:=aJ7 g.value 80 80 rfl AO AO h5
 obtain⟨p8,⟨hs0,hs8⟩,HS⟩:=aJ7 g.session 8 8 rfl AO AO h2
 clear hH
 go_enter Tryz.func22,Tryz.ntmps22
 go_upto_region 1 with fail
 obtain⟨t1,t2,t3,t4⟩:=aM6 w (.cells #[.int .i64 g.kind,.int .i64 g.session,.int .i64 g.name,.int .i64 g.key,.int .i64 g.value] 74) (.cells #[.int .i64 0,.int .i64 0,.int .i64 0,.slice none 0 0] 46)
 obtain⟨w2,hw2⟩:∃ w2,w2=(w.alloc (.cells #[.int .i64 g.kind,.int .i64 g.session,.int .i64 g.name,.int .i64 g.key,.int .i64 g.value] 74)).alloc (.cells #[.int .i64 0,.int .i64 0,.int .i64 0,.slice none 0 0] 46):=⟨_,rfl⟩
 rw[← hw2] at t1 t2 t3 t4 ⊢
 obtain⟨rb,hrb⟩:∃ rb,rb=w.heap.size+1:=⟨_,rfl⟩
 rw[← hrb] at t2 ⊢
 obtain⟨gb,hgb⟩:∃ gb,gb=w.heap.size:=⟨_,rfl⟩
 rw[← hgb] at t1 ⊢
 have c0:=aA t1 0
 have c1:=aA t1 1
 have c2:=aA t1 2
 have c3:=aA t1 3
 have c4:=aA t1 4
 have r0:=aA t2 0
 have f0:=aD t2 0
 have r1:=aA t2 1
 have f1:=aD t2 1
 have r2:=aA t2 2
 have f2:=aD t2 2
 have r3:=aA t2 3
 have f3:=aD t2 3
 simp only[List.getElem?_cons_zero,List.getElem?_cons_succ] at c0 c1 c2 c3 c4 r0 r1 r2 r3
 have lg:gb<w2.heap.size:=by omega
 have lr:rb<w2.heap.size:=by omega
 have n1:¬ (gb=rb):=by omega
 have n1':¬ (rb=gb):=by omega
 have hwr:w.heap.size≤rb:=by omega
 have hrw:rb<w.heap.size+2:=by omega
 have T2:=zh t2
 have T3:=zh t3
 have T4:=zh t4
 clear t1 t2 t3 t4 hw2 hrb hgb
 have hcase:p26=20∨p26=21∨p26=22∨p26=23∨p26=24∨p26=25∨p26<20:=by omega
 rcases hcase with rfl|rfl|rfl|rfl|rfl|rfl|h
 ·go_wp2_with (first|(go_at_call 21;(with_reducible refine (HK.out _).mono ?_);rintro e wz ⟨rfl,hwz⟩;have hwz:=hwz.symm;subst hwz)|(go_at_call 21;(with_reducible refine (HV.out _).mono ?_);rintro e wz ⟨rfl,hwz⟩;have hwz:=hwz.symm;subst hwz)|(go_at_call 21;(with_reducible refine (HS.out _).mono ?_);rintro e wz ⟨rfl,hwz⟩;have hwz:=hwz.symm;subst hwz))
  refine bodyPost_ret (v:=.agg #[.int .i64 2,.int .i64 0,.int .i64 0,.slice none 0 0]) (by simp[results,Tryz.results22,go_sem,r0,r1,r2,r3]) rfl ?_
  exact⟨⟨2,0,0,[]⟩,none,0,rfl,⟨sync_fine,dR1 (show (2:Int)≠1 by decide)⟩,zn,SL.nil,((((T4.out.setCell (p:=⟨rb,0,none⟩) hwr _).setCell (p:=⟨rb,1,none⟩) hwr _).setCell (p:=⟨rb,2,none⟩) hwr _).setCell (p:=⟨rb,3,none⟩) hwr _)⟩
 ·go_wp2_with (first|(go_at_call 21;(with_reducible refine (HK.out _).mono ?_);rintro e wz ⟨rfl,hwz⟩;have hwz:=hwz.symm;subst hwz)|(go_at_call 21;(with_reducible refine (HV.out _).mono ?_);rintro e wz ⟨rfl,hwz⟩;have hwz:=hwz.symm;subst hwz)|(go_at_call 21;(with_reducible refine (HS.out _).mono ?_);rintro e wz ⟨rfl,hwz⟩;have hwz:=hwz.symm;subst hwz))
  refine bodyPost_ret (v:=.agg #[.int .i64 2,.int .i64 0,.int .i64 0,.slice none 0 0]) (by simp[results,Tryz.results22,go_sem,r0,r1,r2,r3]) rfl ?_
  exact⟨⟨2,0,0,[]⟩,none,0,rfl,⟨sync_fine,dR1 (show (2:Int)≠1 by decide)⟩,zn,SL.nil,((((T4.out.setCell (p:=⟨rb,0,none⟩) hwr _).setCell (p:=⟨rb,1,none⟩) hwr _).setCell (p:=⟨rb,2,none⟩) hwr _).setCell (p:=⟨rb,3,none⟩) hwr _)⟩
 ·go_wp2_with (first|(go_at_call 21;(with_reducible refine (HK.out _).mono ?_);rintro e wz ⟨rfl,hwz⟩;have hwz:=hwz.symm;subst hwz)|(go_at_call 21;(with_reducible refine (HV.out _).mono ?_);rintro e wz ⟨rfl,hwz⟩;have hwz:=hwz.symm;subst hwz)|(go_at_call 21;(with_reducible refine (HS.out _).mono ?_);rintro e wz ⟨rfl,hwz⟩;have hwz:=hwz.symm;subst hwz))
  refine bodyPost_ret (v:=.agg #[.int .i64 2,.int .i64 0,.int .i64 0,.slice none 0 0]) (by simp[results,Tryz.results22,go_sem,r0,r1,r2,r3]) rfl ?_
  exact⟨⟨2,0,0,[]⟩,none,0,rfl,⟨sync_fine,dR1 (show (2:Int)≠1 by decide)⟩,zn,SL.nil,((((T4.out.setCell (p:=⟨rb,0,none⟩) hwr _).setCell (p:=⟨rb,1,none⟩) hwr _).setCell (p:=⟨rb,2,none⟩) hwr _).setCell (p:=⟨rb,3,none⟩) hwr _)⟩
 ·go_wp2_with (first|(go_at_call 21;(with_reducible refine (HK.out _).mono ?_);rintro e wz ⟨rfl,hwz⟩;have hwz:=hwz.symm;subst hwz)|(go_at_call 21;(with_reducible refine (HV.out _).mono ?_);rintro e wz ⟨rfl,hwz⟩;have hwz:=hwz.symm;subst hwz)|(go_at_call 21;(with_reducible refine (HS.out _).mono ?_);rintro e wz ⟨rfl,hwz⟩;have hwz:=hwz.symm;subst hwz))
  refine bodyPost_ret (v:=.agg #[.int .i64 3,.int .i64 0,.int .i64 p80,.slice none 0 0]) (by simp[results,Tryz.results22,go_sem,r0,r1,r2,r3]) rfl ?_
  exact⟨⟨3,0,p80,[]⟩,none,0,rfl,⟨cJ3 AO,dR1 (show (3:Int)≠1 by decide)⟩,zn,SL.nil,((((T4.out.setCell (p:=⟨rb,0,none⟩) hwr _).setCell (p:=⟨rb,1,none⟩) hwr _).setCell (p:=⟨rb,2,none⟩) hwr _).setCell (p:=⟨rb,3,none⟩) hwr _)⟩
 ·go_wp2_with (first|(go_at_call 21;(with_reducible refine (HK.out _).mono ?_);rintro e wz ⟨rfl,hwz⟩;have hwz:=hwz.symm;subst hwz)|(go_at_call 21;(with_reducible refine (HV.out _).mono ?_);rintro e wz ⟨rfl,hwz⟩;have hwz:=hwz.symm;subst hwz)|(go_at_call 21;(with_reducible refine (HS.out _).mono ?_);rintro e wz ⟨rfl,hwz⟩;have hwz:=hwz.symm;subst hwz))
  refine bodyPost_ret (v:=.agg #[.int .i64 4,.int .i64 0,.int .i64 0,.slice none 0 0]) (by simp[results,Tryz.results22,go_sem,r0,r1,r2,r3]) rfl ?_
  exact⟨⟨4,0,0,[]⟩,none,0,rfl,⟨start_fine,dR1 (show (4:Int)≠1 by decide)⟩,zn,SL.nil,((((T4.out.setCell (p:=⟨rb,0,none⟩) hwr _).setCell (p:=⟨rb,1,none⟩) hwr _).setCell (p:=⟨rb,2,none⟩) hwr _).setCell (p:=⟨rb,3,none⟩) hwr _)⟩
 ·go_upto_region 11 with (first|(go_at_call 21;(with_reducible refine (HK.out _).mono ?_);rintro e wz ⟨rfl,hwz⟩;have hwz:=hwz.symm;subst hwz)|(go_at_call 21;(with_reducible refine (HV.out _).mono ?_);rintro e wz ⟨rfl,hwz⟩;have hwz:=hwz.symm;subst hwz)|(go_at_call 21;(with_reducible refine (HS.out _).mono ?_);rintro e wz ⟨rfl,hwz⟩;have hwz:=hwz.symm;subst hwz))
  go_region_held3 (fun w'=>w'.cell? ⟨gb,1,none⟩=some (.int .i64 g.session)∧w'.cell? ⟨gb,3,none⟩=some (.int .i64 g.key)∧w'.cell? ⟨gb,4,none⟩=some (.int .i64 g.value))
   (first
    | with_reducible exact⟨((Below.refl w2.heap.size w2).cell lg).trans c1,((Below.refl w2.heap.size w2).cell lg).trans c3,((Below.refl w2.heap.size w2).cell lg).trans c4⟩
    | with_reducible exact⟨((Below.refl w2.heap.size w2).drew.cell lg).trans c1,((Below.refl w2.heap.size w2).drew.cell lg).trans c3,((Below.refl w2.heap.size w2).drew.cell lg).trans c4⟩
    | with_reducible exact⟨(((Below.refl w2.heap.size w2).alloc ZC7 _).cell lg).trans c1,(((Below.refl w2.heap.size w2).alloc ZC7 _).cell lg).trans c3,(((Below.refl w2.heap.size w2).alloc ZC7 _).cell lg).trans c4⟩
    | with_reducible exact⟨(((Below.refl w2.heap.size w2).alloc ZC7 _).drew.cell lg).trans c1,(((Below.refl w2.heap.size w2).alloc ZC7 _).drew.cell lg).trans c3,(((Below.refl w2.heap.size w2).alloc ZC7 _).drew.cell lg).trans c4⟩
    | with_reducible exact⟨(((Below.refl w2.heap.size w2).drew.alloc ZC7 _).cell lg).trans c1,(((Below.refl w2.heap.size w2).drew.alloc ZC7 _).cell lg).trans c3,(((Below.refl w2.heap.size w2).drew.alloc ZC7 _).cell lg).trans c4⟩
    | go_keep)
   (first
    | (go_at_call 21;(with_reducible refine (HS.out _).mono ?_);rintro e wz ⟨rfl,rfl⟩))
  all_goals
   go_wp2
   obtain⟨WE,hWE⟩:∃ WE,WE=(((((w2.setCell ⟨rb,0,none⟩ (.int .i64 1)).setCell ⟨rb,1,none⟩ (.int .i64 p8)).setCell ⟨rb,2,none⟩ (.int .i64 0)).setCell ⟨rb,3,none⟩ (.slice (some ⟨w2.heap.size,0,none⟩) 2 2)).alloc (.cells #[.int .u8 (IntKind.u8.wrap g.value),.int .u8 (IntKind.u8.wrap g.key)] 5)).drew:=⟨_,rfl⟩
   rw[← hWE]
   obtain⟨bx,hbx⟩:=aI8 g.value
   obtain⟨by',hby⟩:=aI8 g.key
   have hE:WE.heap[rb]?=some (.cells #[.int .i64 1,.int .i64 p8,.int .i64 0,.slice (some ⟨w2.heap.size,0,none⟩) 2 2] 46 (0,0)):=by
    rw[hWE]
    exact (aB9 _ _ (by simpa [World.setCell] using lr)).trans (heap_setCell_same _ rb 3 _ _ _ (heap_setCell_same _ rb 2 _ _ _ (heap_setCell_same _ rb 1 _ _ _ (heap_setCell_same _ rb 0 _ _ _ (T2.out)))))
   have hz:WE.heap[w2.heap.size]?=some (.cells #[bv bx,bv by'] 5 (0,0)):=by
    have h9:=aK ((((w2.setCell ⟨rb,0,none⟩ (.int .i64 1)).setCell ⟨rb,1,none⟩ (.int .i64 p8)).setCell ⟨rb,2,none⟩ (.int .i64 0)).setCell ⟨rb,3,none⟩ (.slice (some ⟨w2.heap.size,0,none⟩) 2 2)) #[.int .u8 (IntKind.u8.wrap g.value),.int .u8 (IntKind.u8.wrap g.key)] 5
    rw[show ((((w2.setCell ⟨rb,0,none⟩ (.int .i64 1)).setCell ⟨rb,1,none⟩ (.int .i64 p8)).setCell ⟨rb,2,none⟩ (.int .i64 0)).setCell ⟨rb,3,none⟩ (.slice (some ⟨w2.heap.size,0,none⟩) 2 2)).heap.size=w2.heap.size by simp[World.setCell]] at h9
    rw[hWE,← hbx,← hby]
    exact h9
   have hb1:Below w.heap.size w WE:=by
    rw[hWE]
    exact (((((T4.out.setCell (p:=⟨rb,0,none⟩) hwr _).setCell (p:=⟨rb,1,none⟩) hwr _).setCell (p:=⟨rb,2,none⟩) hwr _).setCell (p:=⟨rb,3,none⟩) hwr _).alloc (by simp[World.setCell];omega) _).drew
   clear hWE hbx hby
   have e0:=aA hE 0
   have e1:=aA hE 1
   have e2:=aA hE 2
   have e3:=aA hE 3
   simp only[List.getElem?_cons_zero,List.getElem?_cons_succ] at e0 e1 e2 e3
   refine bodyPost_ret (v:=.agg #[.int .i64 1,.int .i64 p8,.int .i64 0,.slice (some ⟨w2.heap.size,0,none⟩) 2 2]) (by simp[results,Tryz.results22,go_sem,e0,e1,e2,e3]) rfl ?_
   exact⟨⟨1,p8,0,[bx,by']⟩,some ⟨w2.heap.size,0,none⟩,2,rfl,⟨bY1 ⟨hs0,hs8⟩ ZH2,two_abc _ _ _⟩,zn,bs_twoT hz (by show w.heap.size≤w2.heap.size;omega),hb1⟩
 ·go_upto_region 12 with (first|(go_at_call 21;(with_reducible refine (HK.out _).mono ?_);rintro e wz ⟨rfl,hwz⟩;have hwz:=hwz.symm;subst hwz)|(go_at_call 21;(with_reducible refine (HV.out _).mono ?_);rintro e wz ⟨rfl,hwz⟩;have hwz:=hwz.symm;subst hwz)|(go_at_call 21;(with_reducible refine (HS.out _).mono ?_);rintro e wz ⟨rfl,hwz⟩;have hwz:=hwz.symm;subst hwz))
  go_region_held3 (fun w'=>w'.cell? ⟨gb,0,none⟩=some (.int .i64 g.kind)∧w'.cell? ⟨gb,1,none⟩=some (.int .i64 g.session)∧w'.cell? ⟨gb,2,none⟩=some (.int .i64 g.name)∧w'.cell? ⟨gb,3,none⟩=some (.int .i64 g.key)∧w'.cell? ⟨gb,4,none⟩=some (.int .i64 g.value))
   (first
    | with_reducible exact⟨(H5.out.cell lg).trans c0,(H5.out.cell lg).trans c1,(H5.out.cell lg).trans c2,(H5.out.cell lg).trans c3,(H5.out.cell lg).trans c4⟩
    | with_reducible exact⟨(H4.out.cell lg).trans c0,(H4.out.cell lg).trans c1,(H4.out.cell lg).trans c2,(H4.out.cell lg).trans c3,(H4.out.cell lg).trans c4⟩
    | with_reducible exact⟨((Below.refl w2.heap.size w2).drew.cell lg).trans c0,((Below.refl w2.heap.size w2).drew.cell lg).trans c1,((Below.refl w2.heap.size w2).drew.cell lg).trans c2,((Below.refl w2.heap.size w2).drew.cell lg).trans c3,((Below.refl w2.heap.size w2).drew.cell lg).trans c4⟩
    | go_keep)
   (first
    | (go_at_call 21;(with_reducible refine (HS.out _).mono ?_);rintro e wz ⟨rfl,rfl⟩)
    | (go_at_call 20;(with_reducible refine (cP6 _ g h1 h3 h4 h5).mono ?_);rintro e w4 ⟨r,A,a,B,b,C,c,D,d,rfl,hfi,s1,s2,s3,s4,hb4⟩;have HFi:=zh hfi;clear hfi;have H4:=zh (show Below w2.heap.size w2 w4 from (Below.refl w2.heap.size w2).drew.next hb4 zn);have S1:=zh s1.bz;have S2:=zh s2.bz;have S3:=zh s3.bz;have S4:=zh s4.bz;clear s1 s2 s3 s4)
    | (go_at_call 19;(with_reducible refine (dR3 _ ?hT p8 ⟨hs0,hs8⟩ A B C D r a b c d HFi.out ?a1 ?a2 ?a3 ?a4).mono ?_);(case hT=>exact HH.out.below (T4.out.next H4.out T4.out.size));(case a1=>exact S1.out);(case a2=>exact S2.out);(case a3=>exact S3.out);(case a4=>exact S4.out);rintro e w5 ⟨x,A5,k5,rfl,hx,hxl,hs5,hb5⟩;have H5:=zh (show Below w2.heap.size w2 w5 from H4.out.next hb5 H4.out.size);have hE5:=(H5.out.block rb lr).trans T2.out;have r0:=aA hE5 0;have r1:=aA hE5 1;have r2:=aA hE5 2;have r3:=aA hE5 3;have f0:=aD hE5 0;have f1:=aD hE5 1;have f2:=aD hE5 2;have f3:=aD hE5 3;simp only[List.getElem?_cons_zero,List.getElem?_cons_succ] at r0 r1 r2 r3;have HE5:=zh hE5;have S5:=zh (show Bs (aB w2.heap.size) w5 A5 x.data from hs5.blo H4.out.size);have Hx:=zh hx;clear hE5 hs5 hx))
  all_goals
   go_wp2
   refine bodyPost_ret (v:=.agg #[.int .i64 x.kind,.int .i64 x.session,.int .i64 x.keep,.slice A5 x.data.length k5]) (by simp[results,Tryz.results22,go_sem,r0,r1,r2,r3]) rfl ?_
   exact⟨x,A5,k5,rfl,Hx.out,hxl,(S5.out.bsame (((((((aC.refl _ w5).setCell (p:=⟨rb,0,none⟩) ZC4 _).setCell (p:=⟨rb,1,none⟩) ZC4 _).setCell (p:=⟨rb,2,none⟩) ZC4 _).setCell (p:=⟨rb,3,none⟩) ZC4 _)))).blo T4.out.size,((((((T4.out.next H5.out T4.out.size).setCell (p:=⟨rb,0,none⟩) hwr _).setCell (p:=⟨rb,1,none⟩) hwr _).setCell (p:=⟨rb,2,none⟩) hwr _).setCell (p:=⟨rb,3,none⟩) hwr _))⟩
def GrR (_:Nat→Prop) (_:World) (cs:List Value) (g:Gr):Prop :=
 cs=[.int .i64 g.kind,.int .i64 g.session,.int .i64 g.name,.int .i64 g.key,.int .i64 g.value]∧aS3 g.kind∧aS3 g.session∧aS3 g.name∧aS3 g.key∧aS3 g.value
theorem grR_stays:bI GrR:=⟨fun _ _ _ _ _ _ h=>h,fun _ _ _ _ _ _ h=>h⟩
abbrev Grs (S:Nat→Prop) (w:World) (A:Option Addr) (l:List Gr):Prop:=SL 5 GrR S w A l
theorem grs_at {S:Nat→Prop} {w:World} {A:Option Addr} {l:List Gr} (h:Grs S w A l) {k:Nat} (hk:k<l.length) :
  ∃ b off,A=some ⟨b,off,none⟩∧b<w.heap.size∧w.cell? ⟨b,off+k*5,none⟩=some (.int .i64 l[k].kind)∧w.cell? ⟨b,off+k*5+1,none⟩=some (.int .i64 l[k].session)∧w.cell? ⟨b,off+k*5+2,none⟩=some (.int .i64 l[k].name)∧w.cell? ⟨b,off+k*5+3,none⟩=some (.int .i64 l[k].key)∧w.cell? ⟨b,off+k*5+4,none⟩=some (.int .i64 l[k].value)∧aS3 l[k].kind∧aS3 l[k].session∧aS3 l[k].name∧aS3 l[k].key∧aS3 l[k].value:=by
 obtain⟨b,off,cs,hA,hb,hlt,hlen,hc,rfl,h1⟩:=h.at hk
 exact⟨b,off,hA,hlt,hc 0 AO,hc 1 AO,hc 2 AO,hc 3 AO,hc 4 AO,h1⟩
theorem info_acT:(Tryz.prog.info? 46).map (fun i=>(i.zero.map fun z=>z.cells.size,i.size,i.bytes))=some (some 4,4,48):=by kernel_rfl
theorem ac_parts:∃ i z,Tryz.prog.info? 46=some i∧i.zero=some z∧i.size=4∧i.bytes=48∧z.cells.size=4:=by
 have h:=info_acT
 cases hi:Tryz.prog.info? 46 with
 | none=>rw[hi] at h;cases h
 | some i =>
  rw[hi] at h
  simp only[Option.map_some,Option.some.injEq,Prod.mk.injEq,Option.map_eq_some_iff] at h
  obtain⟨⟨z,hz,hc⟩,h2,h3⟩:=h
  exact⟨i,z,rfl,hz,h2,h3,hc⟩
def RetAcs (w:World) (n:Nat) (e:Ending) (w':World):Prop :=
 ∃ (l:List Ac) (v:Value),e=.returned v∧l.length≤n∧(∀ a ∈ l,aB6 a=0)∧Own 4 AcR (aB w.heap.size) w' w.heap.size 46 v l∧Below w.heap.size w w'
def RetAcsN (w:World) (n:Nat) (e:Ending) (w':World):Prop :=
 ∃ (l:List Ac) (v:Value),e=.returned v∧l.length≤n∧(∀ a ∈ l,aB6 a=0∧dR0 a)∧Own 4 AcR (aB w.heap.size) w' w.heap.size 46 v l∧Below w.heap.size w w'
theorem dR5 (w:World) (hH:bL w) (A:Option Addr) (l:List Gr) (c:Nat) (n:Nat) (nI:Int) (hn:nI=n) (hn2:n≤1000) (ha:Grs All w A l) (hl:l.length≤big) :
  Calls Tryz.prog 8 #[.slice A l.length c,.int .i64 nI] w (RetAcsN w n):=by
 unfold big at hl
 subst hn
 have HH:=zh hH
 have Ha:=zh ha
 obtain⟨i0,z0,hi0,hz0,hz1,hz2,hz3⟩:=ac_parts
 clear hH ha
 go_enter Tryz.func8,Tryz.ntmps8
 go_wp2
 go_loopw [5,6] (fun v i wr=>∃ (k:Nat) (xs:List Ac),k≤n∧i=.int .i64 k∧xs.length=k∧(∀ a ∈ xs,aB6 a=0∧dR0 a)∧Own 4 AcR (aB w.heap.size) wr w.heap.size 46 v xs∧Below w.heap.size w wr) (fun _ i _=>n - (intOf i).toNat)
 case atStart=>exact⟨0,[],AO,rfl,rfl,(fun a h=>by cases h),Own.nil _ _ _,Below.refl _ _⟩
 case round =>
  obtain⟨k,xs,hk,rfl,hxl,hxs,hown,hbr⟩:=hrel
  have Hxl:=zh hxl
  have hx63:xs.length≤1000:=by omega
  have Hxs:=zh hxs
  have Hown:=zh hown
  have Hbr:=zh hbr
  obtain⟨VA,vc,rfl⟩:=aP6 hown
  clear hxs hown hbr hxl
  by_cases hlt:k<l.length∧k<n
  ·obtain⟨hlt,hkn⟩:=hlt
   obtain⟨b,off,rfl,hab,a0,a1,a2,a3,a4,q0,q1,q2,q3,q4⟩:=grs_at (Ha.out.below grR_stays Hbr.out) hlt
   have i0':(0:Int)≤(k:Int):=by omega
   have i1':(k:Int)<(l.length:Int):=by omega
   have i2':(k:Int)<(n:Int):=by omega
   generalize l[k]=g at *
   go_wp2_with (first
    | (go_at_call 22;(with_reducible refine (dR4 _ ?hT g q0 q1 q2 q3 q4).mono ?_);(case hT=>exact HH.out.below Hbr.out);rintro e1 w1 ⟨x,A1,c1,rfl,hx,hxl1,hs1,hb1⟩;have Hx:=zh hx;have S1:=zh hs1;have Hb1:=zh hb1;clear hx hs1)
    | (at_builtin;refine aM3 acR_stays (S:=aB w.heap.size) _ rfl _ _ _ rfl w.heap.size 46 i0 _ 4 48 Tryz.underlying23 hi0 hz0 hz1 hz2 hz3 ZD9 _ xs rfl ?hown _ _ [.int .i64 x.kind,.int .i64 x.session,.int .i64 x.keep,.slice A1 x.data.length c1] rfl rfl (aE6 _ _ [.int .i64 x.kind,.int .i64 x.session,.int .i64 x.keep,.slice A1 x.data.length c1] _ ZH2) ZE8 ?hm ?hby ?hba x ?hd ?_;(case hown=>exact ((Hown.out.below acR_stays Hb1.out).below acR_stays ((Below.refl _ _).alloc zn _)).below acR_stays ((Below.refl _ _).alloc zn _));(case hm=>(simp only[maxLen];omega));(case hby=>omega);(case hba=>(have:=Hbr.out.size;have:=Hb1.out.size;simp;omega));(case hd=>exact⟨A1,c1,rfl,hxl1,((S1.out.bbelow ((Below.refl _ _).alloc zn _)).bbelow ((Below.refl _ _).alloc zn _)).bless fun b _ h=>⟨Nat.le_trans Hbr.out.size h,Hown.out.apart _ zn b h⟩⟩);intro v' w3 hown3 hb3))
   go_roundw
   case rel=>exact⟨k+1,xs++[x],AO,by go_num,by rw[List.length_append,Hxl.out];rfl,(fun a ha=>by
    rcases List.mem_append.1 ha with h|h
    ·exact Hxs.out a h
    ·rw[List.mem_singleton] at h;rw[h];exact Hx.out),hown3,((Hbr.out.next Hb1.out Hbr.out.size).alloc (Nat.le_trans Hbr.out.size Hb1.out.size) _).alloc (by have:=Hbr.out.size;have:=Hb1.out.size;simp;omega) _ |>.trans hb3⟩
   case measure=>simp[intOf];omega
  ·by_cases hlt2:k<l.length
   ·have hkn:n≤k:=by omega
    have i0':(k:Int)<(l.length:Int):=by omega
    have i2':(n:Int)≤(k:Int):=by omega
    clear hlt
    go_wp2
    go_ret
    exact⟨xs,_,rfl,by rw[Hxl.out];exact hk,Hxs.out,Hown.out,Hbr.out⟩
   ·have i1':(l.length:Int)≤(k:Int):=by omega
    clear hlt
    go_wp2
    go_ret
    exact⟨xs,_,rfl,by rw[Hxl.out];exact hk,Hxs.out,Hown.out,Hbr.out⟩
theorem cX5 (w:World) (hH:bL w) (A:Option Addr) (l:List Gr) (c:Nat) (n:Nat) (nI:Int) (hn:nI=n) (hn2:n≤1000) (ha:Grs All w A l) (hl:l.length≤big) :
  Calls Tryz.prog 8 #[.slice A l.length c,.int .i64 nI] w (RetAcs w n) :=
 (dR5 w hH A l c n nI hn hn2 ha hl).mono fun _ _ ⟨l,v,h1,h2,h3,h4⟩=>⟨l,v,h1,h2,fun a ha=>(h3 a ha).1,h4⟩
def cP7 (w:World) (o:Oc) (e:Ending) (w':World):Prop :=
 ∃ A a B b,e=.returned (.tuple #[.agg #[.bool o.up,.int .i64 o.turn,.int .i64 o.pending,.slice A o.forest.length a,.slice B o.replies.length b],.bool true])∧Ts (aB w.heap.size) w' A o.forest∧SL 15 RpB (aB w.heap.size) w' B o.replies∧SL 15 RpR All w' B o.replies∧Below w.heap.size w w'
theorem run_nil:bS2 []=(eng0.out,0):=rfl
theorem bU4 (w:World) (hT:bD w) (hH:bL w):Calls Tryz.prog 15 #[.slice none 0 0] w (fun e w'=>∃ A a B b,e=.returned (.tuple #[.agg #[.bool true,.int .i64 0,.int .i64 0,.slice A 0 a,.slice B 0 b],.int .i64 0])∧Below w.heap.size w w'):=by
 have h:=bG7 w hT hH none [] 0 SL.nil (by unfold big;decide)
 rw[run_nil] at h
 refine h.mono ?_
 rintro e w' ⟨A,a,B,b,he,_,_,_,hb⟩
 exact⟨A,a,B,b,he,hb⟩
theorem cZ3 (w:World) (hT:bD w) (hH:bL w) (A:Option Addr) (l:List Ac) (c:Nat) (ha:Acs All w A l) (hl:∀ a ∈ l,aB6 a=0) (hn:l.length≤100000) :
  Calls Tryz.prog 9 #[.slice A l.length c] w (cP7 w (bM l).out):=by
 have Hrun:=zh (run_fine hl hn)
 have hbig:l.length≤big:=by unfold big;omega
 have HT:=zh hT
 have HH:=zh hH
 have Ha:=zh ha
 obtain⟨o,ho⟩:∃ o,o=(bM l).out:=⟨_,rfl⟩
 rw[← ho] at Hrun ⊢
 have Hk:=zh (show ∀ r ∈ o.replies,dC7 r.pairs by rw[ho];exact dD5 l)
 clear hT hH ha ho hl
 go_enter Tryz.func9,Tryz.ntmps9
 go_wp2_with (first
  | (go_at_call 15;(with_reducible refine (bU4 _ ?hT ?hH).mono ?_);(case hT=>exact HT.out.below hbA);(case hH=>exact HH.out.below hbA);rintro e2 w2 ⟨A2,a2,B2,b2,rfl,hb2⟩)
  | (go_at_call 15;(with_reducible refine (bG7 _ ?hT ?hH A l c ?ha hbig).mono ?_);(case hT=>exact HT.out.below ((Below.refl _ _).alloc zn _));(case hH=>exact HH.out.below ((Below.refl _ _).alloc zn _));(case ha=>exact Ha.out.below acR_stays ((Below.refl _ _).alloc zn _));rw[Hrun.out];rintro e1 w1 ⟨A1,a1,B1,b1,rfl,s1,r1,v1,hb1⟩;have V1:=zh v1;clear v1;have s1:=s1.lo tenR_stays (m:=w.heap.size+1) ZH2;have r1:=r1.lo rpB_stays (m:=w.heap.size+1) ZH2;have hbA:Below w.heap.size w (w1.alloc (.cells #[.bool o.up,.int .i64 o.turn,.int .i64 o.pending,.slice A1 o.forest.length a1,.slice B1 o.replies.length b1] 29)):=(Below.next ((Below.refl _ _).alloc zn _) hb1 AU).alloc (Nat.le_trans ZH2 hb1.size) _;have S1:=zh s1;have R1:=zh r1;clear s1 r1))
 have hl1:=hb1.size
 simp at hl1
 have hbB:Below w.heap.size w w2:=hbA.next hb2 hbA.size
 have z2:w1.heap.size<w2.heap.size:=by have:=hb2.size;simp at this;omega
 have pb:=(aB9 w2 (.cells #[.bool true,.int .i64 0,.int .i64 0,.slice A2 0 a2,.slice B2 0 b2] 29) z2).trans ((hb2.block w1.heap.size ZH2).trans (aK w1 #[.bool o.up,.int .i64 o.turn,.int .i64 o.pending,.slice A1 o.forest.length a1,.slice B1 o.replies.length b1] 29))
 have rbx:(w2.alloc (.cells #[.bool true,.int .i64 0,.int .i64 0,.slice A2 0 a2,.slice B2 0 b2] 29)).heap[w.heap.size]?=some (.cells #[.bool false,.int .i64 0,.int .i64 0,.slice none 0 0,.slice none 0 0] 29 (0,0)):=(aB9 w2 (.cells #[.bool true,.int .i64 0,.int .i64 0,.slice A2 0 a2,.slice B2 0 b2] 29) AO).trans ((hb2.block w.heap.size ZC8).trans ((aB9 w1 (.cells #[.bool o.up,.int .i64 o.turn,.int .i64 o.pending,.slice A1 o.forest.length a1,.slice B1 o.replies.length b1] 29) AO).trans ((hb1.block w.heap.size ZH2).trans (aK w #[.bool false,.int .i64 0,.int .i64 0,.slice none 0 0,.slice none 0 0] 29))))
 have hw3:Below w.heap.size w (w2.alloc (.cells #[.bool true,.int .i64 0,.int .i64 0,.slice A2 0 a2,.slice B2 0 b2] 29)):=hbB.alloc hbB.size _
 have q0:=aA (cs:=[.bool true,.int .i64 0,.int .i64 0,.slice A2 0 a2,.slice B2 0 b2]) (aK w2 #[.bool true,.int .i64 0,.int .i64 0,.slice A2 0 a2,.slice B2 0 b2] 29) 0
 have p0:=aA pb 0
 have r0:=aA rbx 0
 have f0:=aD rbx 0
 have p1:=aA pb 1
 have r1:=aA rbx 1
 have f1:=aD rbx 1
 have p2:=aA pb 2
 have r2:=aA rbx 2
 have f2:=aD rbx 2
 have p3:=aA pb 3
 have r3:=aA rbx 3
 have f3:=aD rbx 3
 have p4:=aA pb 4
 have r4:=aA rbx 4
 have f4:=aD rbx 4
 simp only[List.getElem?_cons_zero,List.getElem?_cons_succ] at q0 p0 p1 p2 p3 p4 r0 r1 r2 r3 r4
 obtain⟨w3,hw3e⟩:∃ w3,w3=w2.alloc (.cells #[.bool true,.int .i64 0,.int .i64 0,.slice A2 0 a2,.slice B2 0 b2] 29):=⟨_,rfl⟩
 rw[← hw3e] at pb rbx hw3 q0 p0 p1 p2 p3 p4 r0 r1 r2 r3 r4 f0 f1 f2 f3 f4 ⊢
 obtain⟨fb,hfb⟩:∃ fb,fb=w2.heap.size:=⟨_,rfl⟩
 rw[← hfb] at q0 ⊢
 obtain⟨ob,hob⟩:∃ ob,ob=w1.heap.size:=⟨_,rfl⟩
 rw[← hob] at p0 p1 p2 p3 p4 ⊢
 have S3:=zh (show Ts (aB (w.heap.size+1)) w3 A1 o.forest from by rw[hw3e];exact (((S1.out.below tenR_stays ((Below.refl _ _).alloc zn _)).below tenR_stays hb2).below tenR_stays ((Below.refl _ _).alloc zn _)))
 have R3:=zh (show SL 15 RpB (aB (w.heap.size+1)) w3 B1 o.replies from by rw[hw3e];exact (((R1.out.below rpB_stays ((Below.refl _ _).alloc zn _)).below rpB_stays hb2).below rpB_stays ((Below.refl _ _).alloc zn _)))
 have V3:=zh (show SL 15 RpR All w3 B1 o.replies from by rw[hw3e];exact (((V1.out.below rpR_stays ((Below.refl _ _).alloc zn _)).below rpR_stays hb2).below rpR_stays ((Below.refl _ _).alloc zn _)))
 have Hoz:=zh (show dD6 w3 w.heap.size from rbx)
 have n1:¬ (ob=w.heap.size):=by omega
 have n1':¬ (w.heap.size=ob):=by omega
 have n2:¬ (fb=w.heap.size):=by omega
 have n2':¬ (w.heap.size=fb):=by omega
 have HW3:=zh hw3
 clear hw3e hfb hob pb rbx hw3 hbA hbB z2 hl1 hb1 hb2
 go_region
 all_goals go_wp2
 refine bodyPost_ret (v:=.tuple #[.agg #[.bool o.up,.int .i64 o.turn,.int .i64 o.pending,.slice A1 o.forest.length a1,.slice B1 o.replies.length b1],.bool true]) (by simp[results,Tryz.results9,go_sem,r0,r1,r2,r3,r4]) rfl ?_
 have sB:aC (aB (w.heap.size+1)) w3 (((((w3.setCell ⟨w.heap.size,0,none⟩ (.bool o.up)).setCell ⟨w.heap.size,1,none⟩ (.int .i64 o.turn)).setCell ⟨w.heap.size,2,none⟩ (.int .i64 o.pending)).setCell ⟨w.heap.size,3,none⟩ (.slice A1 o.forest.length a1)).setCell ⟨w.heap.size,4,none⟩ (.slice B1 o.replies.length b1)).drew:=((((((aC.refl _ w3).setCell (p:=⟨w.heap.size,0,none⟩) ZC4 _).setCell (p:=⟨w.heap.size,1,none⟩) ZC4 _).setCell (p:=⟨w.heap.size,2,none⟩) ZC4 _).setCell (p:=⟨w.heap.size,3,none⟩) ZC4 _).setCell (p:=⟨w.heap.size,4,none⟩) ZC4 _).drew
 have sC:aC (fun k=>All k∧k≠w.heap.size) w3 (((((w3.setCell ⟨w.heap.size,0,none⟩ (.bool o.up)).setCell ⟨w.heap.size,1,none⟩ (.int .i64 o.turn)).setCell ⟨w.heap.size,2,none⟩ (.int .i64 o.pending)).setCell ⟨w.heap.size,3,none⟩ (.slice A1 o.forest.length a1)).setCell ⟨w.heap.size,4,none⟩ (.slice B1 o.replies.length b1)).drew:=((((((aC.refl _ w3).setCell (p:=⟨w.heap.size,0,none⟩) (fun h=>h.2 rfl) _).setCell (p:=⟨w.heap.size,1,none⟩) (fun h=>h.2 rfl) _).setCell (p:=⟨w.heap.size,2,none⟩) (fun h=>h.2 rfl) _).setCell (p:=⟨w.heap.size,3,none⟩) (fun h=>h.2 rfl) _).setCell (p:=⟨w.heap.size,4,none⟩) (fun h=>h.2 rfl) _).drew
 exact⟨A1,a1,B1,b1,rfl,(S3.out.same tenR_stays sB).lo tenR_stays (Nat.le_succ _),(R3.out.same rpB_stays sB).lo rpB_stays (Nat.le_succ _),((dE1 V3.out Hoz.out Hk.out).same rpR_stays sC).z rpR_stays,(((((HW3.out.setCell (p:=⟨w.heap.size,0,none⟩) zn _).setCell (p:=⟨w.heap.size,1,none⟩) zn _).setCell (p:=⟨w.heap.size,2,none⟩) zn _).setCell (p:=⟨w.heap.size,3,none⟩) zn _).setCell (p:=⟨w.heap.size,4,none⟩) zn _).drew⟩
end Go.Proofs.YtablgnacmpcfeaaGreatDoor
namespace Go.Proofs.YtablgnacmpcfeaaGreatDoor
open Go.RowKit Go.ChangeShapes Go.WideShapes Go.ChangeAt Go.Deep
set_option linter.unusedVariables false
set_option linter.unusedSimpArgs false
set_option maxRecDepth 100000
set_option maxHeartbeats 8000000
theorem cP9 (w:World):Opens GrR w 74:=by
 intro H enc base spare held fuel cs x h hx
 obtain⟨xs,n,_,rfl,hcl,hxl,hf⟩:=DataW.trod_struct Tryz.underlying74 h
 have hC:Tryz.prog.cellsOf 74=5:=by kernel_rfl
 have hCi:Tryz.prog.cellsOf 3=1:=by kernel_rfl
 rw[hC] at hcl
 match xs,hxl,cs,hcl with
 | [y0,y1,y2,y3,y4],_,[c0,c1,c2,c3,c4],_ =>
  have f0:DataW.trod enc Tryz.prog w base spare held n 3 [c0]=some y0:=by have h:=hf 0 _ rfl;simpa [hCi] using h
  have f1:DataW.trod enc Tryz.prog w base spare held n 3 [c1]=some y1:=by have h:=hf 1 _ rfl;simpa [hCi] using h
  have f2:DataW.trod enc Tryz.prog w base spare held n 3 [c2]=some y2:=by have h:=hf 2 _ rfl;simpa [hCi] using h
  have f3:DataW.trod enc Tryz.prog w base spare held n 3 [c3]=some y3:=by have h:=hf 3 _ rfl;simpa [hCi] using h
  have f4:DataW.trod enc Tryz.prog w base spare held n 3 [c4]=some y4:=by have h:=hf 4 _ rfl;simpa [hCi] using h
  obtain⟨m0,g0,b0⟩:=aV5 w f0
  obtain⟨m1,g1,b1⟩:=aV5 w f1
  obtain⟨m2,g2,b2⟩:=aV5 w f2
  obtain⟨m3,g3,b3⟩:=aV5 w f3
  obtain⟨m4,g4,b4⟩:=aV5 w f4
  simp at g0 g1 g2 g3 g4
  subst g0 g1 g2 g3 g4
  exact⟨⟨m0,m1,m2,m3,m4⟩,rfl,b0,b1,b2,b3,b4⟩
theorem cJ5 (w:World) {H:Type} {enc:TypeId × Value→H} {base:Nat} {spare:Nat→Bool} {held:Bool} {fuel:Nat} {cs:List Value} {x:DataW H × List MemPlace}
  (h:DataW.trod enc Tryz.prog w base spare held fuel 22 cs=some x) (hx:(x.1.weights Tryz.prog 22).all (·≤reachBytes)=true) :
  ∃ A l c,cs=[.slice A (l:List Gr).length c]∧(Grs All w A l∧l.length≤big):=by
 obtain⟨A,l,c,h1,h2,h3⟩:=cJ4 (size:=5) Tryz.underlying22 ZG0 ZD9 (cP9 w) h hx
 have hb:Tryz.prog.bytesOf 74=40:=by kernel_rfl
 rw[hb] at h3
 exact⟨A,l,c,h1,h2,by unfold big;simp only[reachBytes] at *;omega⟩
end Go.Proofs.YtablgnacmpcfeaaGreatDoor
namespace Go.Proofs.YtablgnacmpcfeaaGreatDoor
open Go.RowKit
set_option linter.unusedVariables false
set_option linter.unusedSimpArgs false
set_option maxRecDepth 100000
set_option maxHeartbeats 8000000
section
variable {α : Type} {size : Nat} {R : (Nat → Prop) → World → List Value → α → Prop} {S : Nat → Prop} {w w' : World} {base : Nat} {e : TypeId} {v v' : Value} {l l2 : List α} {A : Option Addr}
end
def Btw (lo hi b:Nat):Prop:=lo≤b∧b<hi
structure OcB (lo hi:Nat) (w:World) (b:Nat) (o:Oc) (F:Option Addr) (f:Nat) (R:Option Addr) (r:Nat):Prop where
 box:w.heap[b]?=some (.cells #[.bool o.up,.int .i64 o.turn,.int .i64 o.pending,.slice F o.forest.length f,.slice R o.replies.length r] 29 (0,0))
 inb:Btw lo hi b
 fo:Ts (Btw lo hi) w F o.forest
 re:SL 15 RpB (Btw lo hi) w R o.replies
section
variable {w w' : World} {lo hi b : Nat} {o : Oc} {F R : Option Addr} {f r : Nat}
theorem OcB.lt (h:OcB lo hi w b o F f R r):b<w.heap.size:=(Array.getElem?_eq_some_iff.1 h.box).1
theorem OcB.same (h:OcB lo hi w b o F f R r) (hb:aC (Btw lo hi) w w'):OcB lo hi w' b o F f R r:=⟨(hb.block b h.inb h.lt).trans h.box,h.inb,h.fo.same tenR_stays hb,h.re.same rpB_stays hb⟩
theorem OcB.below (h:OcB lo hi w b o F f R r) (hb:Below w.heap.size w w'):OcB lo hi w' b o F f R r:=h.same (aC.of_below hb)
theorem OcB.cells (h:OcB lo hi w b o F f R r):w.cell? ⟨b,0,none⟩=some (.bool o.up)∧w.cell? ⟨b,1,none⟩=some (.int .i64 o.turn)∧w.cell? ⟨b,2,none⟩=some (.int .i64 o.pending)∧w.cell? ⟨b,3,none⟩=some (.slice F o.forest.length f)∧w.cell? ⟨b,4,none⟩=some (.slice R o.replies.length r) :=
 have k:=aA (cs:=[.bool o.up,.int .i64 o.turn,.int .i64 o.pending,.slice F o.forest.length f,.slice R o.replies.length r]) h.box
 ⟨k 0,k 1,k 2,k 3,k 4⟩
def RetBox (w:World) (o:Oc) (e:Ending) (w':World):Prop :=
 ∃ F f R r W b hi,e=.returned (.tuple #[.agg #[.bool o.up,.int .i64 o.turn,.int .i64 o.pending,.slice F o.forest.length f,.slice R o.replies.length r],.bool true])∧w'.alloc (.cells #[.bool o.up,.int .i64 o.turn,.int .i64 o.pending,.slice F o.forest.length f,.slice R o.replies.length r] 29)=W∧w'.heap.size=b∧hi=W.heap.size∧OcB w.heap.size hi W b o F f R r∧Below w.heap.size w W∧Below w.heap.size w w'∧SL 15 RpR (fun k=>k<hi) W R o.replies
theorem dA2 (w:World) (hT:bD w) (hH:bL w) (A:Option Addr) (l:List Ac) (c:Nat) (ha:Acs All w A l) (hl:∀ a ∈ l,aB6 a=0) (hn:l.length≤100000) :
  Calls Tryz.prog 9 #[.slice A l.length c] w (RetBox w (bM l).out):=by
 refine (cZ3 w hT hH A l c ha hl hn).mono ?_
 rintro e w' ⟨F,f,R,r,rfl,h1,h2,h3,hb⟩
 have hk:∀ b,b<w'.heap.size→aB w.heap.size b→Btw w.heap.size (w'.heap.size+1) b:=fun b hb h=>⟨h,AO⟩
 exact⟨F,f,R,r,_,_,w'.heap.size+1,rfl,rfl,rfl,by simp,⟨aK w' _ _,⟨hb.size,AO⟩,(h1.less tenR_stays hk).below tenR_stays ((Below.refl _ _).alloc zn _),(h2.less rpB_stays hk).below rpB_stays ((Below.refl _ _).alloc zn _)⟩,hb.alloc hb.size _,hb,(h3.below rpR_stays ((Below.refl _ _).alloc zn _)).less rpR_stays fun b hb _=>by simpa using hb⟩
end
structure Gro (base lo hi:Nat) (w:World) (v:Value) (l:List Ac):Prop where
 own:Own 4 AcR (aB base) w base 46 v l
 off:∀ x,v.ownBlock=some x→¬ Btw lo hi x
 fine:∀ a ∈ l,aB6 a=0
abbrev dA3 (l:List Ac) (o:Oc):Prop:=Hid (∀ (w:World) (A:Option Addr) (n c:Nat),n=l.length→bD w→bL w→Acs All w A l→Calls Tryz.prog 9 #[.slice A n c] w (RetBox w o))
theorem dA4 {l:List Ac} (hl:∀ a ∈ l,aB6 a=0) (hn:l.length≤100000) {o:Oc} (ho:(bM l).out=o):dA3 l o:=zh fun w A n c h1 hT hH ha=>by
 subst h1 ho
 exact dA2 w hT hH A l c ha hl hn
section
variable {base lo hi : Nat} {w w' : World} {v v' : Value} {l m : List Ac}
theorem Gro.below (h:Gro base lo hi w v l) (hb:Below w.heap.size w w'):Gro base lo hi w' v l:=⟨h.own.below acR_stays hb,h.off,h.fine⟩
theorem Gro.same (h:Gro base lo hi w v l) {w1 w2:World} (hg2:w1.grownBy w2 v.ownBlock):aC (Btw lo hi) w1 w2:=aC.grown (aC.refl _ _) hg2 h.off
end
end Go.Proofs.YtablgnacmpcfeaaGreatDoor
