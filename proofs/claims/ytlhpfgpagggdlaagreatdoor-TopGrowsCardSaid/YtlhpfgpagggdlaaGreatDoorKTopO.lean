/- TopO: Walks: canopytop's ask and act. Walk: canopytop's script. The conditions of each are in its words. -/
import Derived.Deep.CutRange
import Derived.Test.YtlhpfgpagggdlaaGreatDoorKTopP
import Derived.Test.YtlhpfgpagggdlaaGreatDoorKSrvV
namespace Go.Proofs.YtlhpfgpagggdlaaGreatDoor
open Go.RowKit
set_option linter.unusedVariables false
set_option linter.unusedSimpArgs false
set_option maxRecDepth 100000
set_option maxHeartbeats 8000000
def RetAc (w:World) (e:Ending) (w':World):Prop :=
 ∃ (x:Ac) (A:Option Addr) (c:Nat),e=.returned (.agg #[.int .i64 x.kind,.int .i64 x.session,.int .i64 x.keep,.slice A x.data.length c])∧aB6 x=0∧x.data.length≤c∧Bs (aB w.heap.size) w' A x.data∧Below w.heap.size w w'
theorem enc_len (r:Rq):(bK9 r).1.length≤4000:=by
 by_cases h:aQ r=0
 ·exact (cY0 h).2
 ·unfold bK9
  rw[if_pos h]
  simp
theorem bY1 {s:Int} (hs:0≤s∧s<8) {d:List UInt8} (hd:d.length≤4000):aB6 ⟨1,s,0,d⟩=0:=by
 obtain⟨k,rfl⟩:=Int.eq_ofNat_of_zero_le hs.1
 exact cY8 AO hd
theorem cX3 (w:World) (hH:bL w) (s:Int) (hs:0≤s∧s<8) (A B C D:Option Addr) (r:Rq) (a b c d:Nat) (hA:Bs All w A r.name) (hB:Bs All w B r.key) (hC:Bs All w C r.last) (hD:Bs All w D r.value) :
  Calls Tryz.prog 23 #[.int .i64 s,.agg #[.int .i64 r.kind,.slice A r.name.length a,.slice B r.key.length b,.slice C r.last.length c,.slice D r.value.length d]] w (RetAc w):=by
 have HH:=zh hH
 have RA:=zh hA
 have RB:=zh hB
 have RC:=zh hC
 have RD:=zh hD
 obtain⟨q,qe,hq⟩:∃ q qe,bK9 r=(q,qe):=⟨_,_,rfl⟩
 have Hq:=zh hq
 have hql:q.length≤4000:=by have:=enc_len r;rw[hq] at this;exact this
 have Hf:=zh (bY1 hs hql)
 obtain⟨t1,t2,t3,t4⟩:=aM6 w (.cells #[.int .i64 r.kind,.slice A r.name.length a,.slice B r.key.length b,.slice C r.last.length c,.slice D r.value.length d] 51) (.cells #[.int .i64 0,.int .i64 0,.int .i64 0,.slice none 0 0] 49)
 have T2:=zh t2
 have T4:=zh t4
 have T3:=zh t3
 clear hH hA hB hC hD hq t1 t2 t3 t4
 go_enter Tryz.func23,Tryz.ntmps23
 go_wp2_with (go_at_call 38;(with_reducible refine (bS6 _ ?hT A B C D r a b c d ?h1 ?h2 ?h3 ?h4).mono ?_);(case hT=>exact HH.out.below T4.out);(case h1=>exact RA.out.bbelow T4.out);(case h2=>exact RB.out.bbelow T4.out);(case h3=>exact RC.out.bbelow T4.out);(case h4=>exact RD.out.bbelow T4.out);rw[Hq.out];rintro e1 w1 ⟨A1,c1,rfl,hc1,hs1,hb1⟩;have hx:=(hb1.block (w.heap.size+1) (by rw[T3.out];omega)).trans T2.out;have r0:=aA (cs:=[.int .i64 0,.int .i64 0,.int .i64 0,.slice none 0 0]) hx 0;have r1:=aA (cs:=[.int .i64 0,.int .i64 0,.int .i64 0,.slice none 0 0]) hx 1;have r2:=aA (cs:=[.int .i64 0,.int .i64 0,.int .i64 0,.slice none 0 0]) hx 2;have r3:=aA (cs:=[.int .i64 0,.int .i64 0,.int .i64 0,.slice none 0 0]) hx 3;have f0:=aD (cs:=[.int .i64 0,.int .i64 0,.int .i64 0,.slice none 0 0]) hx 0;have f1:=aD (cs:=[.int .i64 0,.int .i64 0,.int .i64 0,.slice none 0 0]) hx 1;have f2:=aD (cs:=[.int .i64 0,.int .i64 0,.int .i64 0,.slice none 0 0]) hx 2;have f3:=aD (cs:=[.int .i64 0,.int .i64 0,.int .i64 0,.slice none 0 0]) hx 3;simp only[List.getElem?_cons_zero,List.getElem?_cons_succ] at r0 r1 r2 r3;have hw1:Below w.heap.size w w1:=T4.out.next hb1 T4.out.size;have HW1:=zh hw1;have S1:=zh (show Bs (aB (w.heap.size+2)) w1 A1 q from hs1.blo (by rw[T3.out];exact zn));clear hb1 hs1 hx hw1)
 refine bodyPost_ret (v:=.agg #[.int .i64 1,.int .i64 s,.int .i64 0,.slice A1 q.length c1]) (by simp[results,Tryz.results23,go_sem,r0,r1,r2,r3]) rfl ?_
 exact⟨⟨1,s,0,q⟩,A1,c1,rfl,Hf.out,hc1,(S1.out.bsame (((((aC.refl _ w1).setCell (p:=⟨w.heap.size+1,0,none⟩) (fun h=>by simp only[aB] at h;omega) _).setCell (p:=⟨w.heap.size+1,1,none⟩) (fun h=>by simp only[aB] at h;omega) _).setCell (p:=⟨w.heap.size+1,2,none⟩) (fun h=>by simp only[aB] at h;omega) _).setCell (p:=⟨w.heap.size+1,3,none⟩) (fun h=>by simp only[aB] at h;omega) _)).blo AO,((((HW1.out.setCell (p:=⟨w.heap.size+1,0,none⟩) (Nat.le_succ _) _).setCell (p:=⟨w.heap.size+1,1,none⟩) (Nat.le_succ _) _).setCell (p:=⟨w.heap.size+1,2,none⟩) (Nat.le_succ _) _).setCell (p:=⟨w.heap.size+1,3,none⟩) (Nat.le_succ _) _)⟩
theorem bs_twoT {S:Nat→Prop} {w:World} {A:Nat} {x y:UInt8} {t:TypeId} (h:w.heap[A]?=some (.cells #[bv x,bv y] t (0,0))) (hS:S A):Bs S w (some ⟨A,0,none⟩) [x,y]:=by
 refine fun _=>⟨A,0,rfl,hS,(Array.getElem?_eq_some_iff.1 h).1,fun i hi=>?_⟩
 have hi':i<2:=hi
 have:i=0∨i=1:=by omega
 rcases this with rfl|rfl
 ·refine⟨[bv x],rfl,fun j hj=>?_,rfl⟩
  obtain rfl:j=0:=by omega
  exact aA (cs:=[bv x,bv y]) h 0
 ·refine⟨[bv y],rfl,fun j hj=>?_,rfl⟩
  obtain rfl:j=0:=by omega
  exact aA (cs:=[bv x,bv y]) h 1
theorem cJ3 {p:Int} (h:0≤p∧p≤200000):aB6 ⟨3,0,p,[]⟩=0:=by
 obtain⟨k,rfl⟩:=Int.eq_ofNat_of_zero_le h.1
 exact cO5 AO
theorem cX4 (w:World) (hH:bL w) (g:Gr) (h1:aS3 g.kind) (h2:aS3 g.session) (h3:aS3 g.name) (h4:aS3 g.key) (h5:aS3 g.value) :
  Calls Tryz.prog 26 #[.agg #[.int .i64 g.kind,.int .i64 g.session,.int .i64 g.name,.int .i64 g.key,.int .i64 g.value]] w (RetAc w):=by
 have HH:=zh hH
 obtain⟨p26,⟨hk0,hk26⟩,HK⟩:=aJ7 g.kind 26 26 rfl AO AO h1
 obtain⟨p80,⟨hp0,hp80⟩,HV⟩:=aJ7 g.value 80 80 rfl AO AO h5
 obtain⟨p8,⟨hs0,hs8⟩,HS⟩:=aJ7 g.session 8 8 rfl AO AO h2
 clear hH
 go_enter Tryz.func26,Tryz.ntmps26
 go_upto_region 1 with fail
 obtain⟨t1,t2,t3,t4⟩:=aM6 w (.cells #[.int .i64 g.kind,.int .i64 g.session,.int .i64 g.name,.int .i64 g.key,.int .i64 g.value] 71) (.cells #[.int .i64 0,.int .i64 0,.int .i64 0,.slice none 0 0] 49)
 obtain⟨w2,hw2⟩:∃ w2,w2=(w.alloc (.cells #[.int .i64 g.kind,.int .i64 g.session,.int .i64 g.name,.int .i64 g.key,.int .i64 g.value] 71)).alloc (.cells #[.int .i64 0,.int .i64 0,.int .i64 0,.slice none 0 0] 49):=⟨_,rfl⟩
 rw[← hw2] at t1 t2 t3 t4 ⊢
 obtain⟨rb,hrb⟩:∃ rb,rb=w.heap.size+1:=⟨_,rfl⟩
 rw[← hrb] at t2 ⊢
 obtain⟨gb,hgb⟩:∃ gb,gb=w.heap.size:=⟨_,rfl⟩
 rw[← hgb] at t1 ⊢
 have c0:=aA (cs:=[.int .i64 g.kind,.int .i64 g.session,.int .i64 g.name,.int .i64 g.key,.int .i64 g.value]) t1 0
 have c1:=aA (cs:=[.int .i64 g.kind,.int .i64 g.session,.int .i64 g.name,.int .i64 g.key,.int .i64 g.value]) t1 1
 have c2:=aA (cs:=[.int .i64 g.kind,.int .i64 g.session,.int .i64 g.name,.int .i64 g.key,.int .i64 g.value]) t1 2
 have c3:=aA (cs:=[.int .i64 g.kind,.int .i64 g.session,.int .i64 g.name,.int .i64 g.key,.int .i64 g.value]) t1 3
 have c4:=aA (cs:=[.int .i64 g.kind,.int .i64 g.session,.int .i64 g.name,.int .i64 g.key,.int .i64 g.value]) t1 4
 have r0:=aA (cs:=[.int .i64 0,.int .i64 0,.int .i64 0,.slice none 0 0]) t2 0
 have f0:=aD (cs:=[.int .i64 0,.int .i64 0,.int .i64 0,.slice none 0 0]) t2 0
 have r1:=aA (cs:=[.int .i64 0,.int .i64 0,.int .i64 0,.slice none 0 0]) t2 1
 have f1:=aD (cs:=[.int .i64 0,.int .i64 0,.int .i64 0,.slice none 0 0]) t2 1
 have r2:=aA (cs:=[.int .i64 0,.int .i64 0,.int .i64 0,.slice none 0 0]) t2 2
 have f2:=aD (cs:=[.int .i64 0,.int .i64 0,.int .i64 0,.slice none 0 0]) t2 2
 have r3:=aA (cs:=[.int .i64 0,.int .i64 0,.int .i64 0,.slice none 0 0]) t2 3
 have f3:=aD (cs:=[.int .i64 0,.int .i64 0,.int .i64 0,.slice none 0 0]) t2 3
 simp only[List.getElem?_cons_zero,List.getElem?_cons_succ] at c0 c1 c2 c3 c4 r0 r1 r2 r3
 have lg:gb<w2.heap.size:=by omega
 have lr:rb<w2.heap.size:=by omega
 have n1:¬ (gb=rb):=by omega
 have n1':¬ (rb=gb):=by omega
 have hwr:w.heap.size≤rb:=by omega
 have hrw:rb<w.heap.size+2:=by omega
 have T2:=zh t2
 have T3:=zh t3
 have T4:=zh t4
 clear t1 t2 t3 t4 hw2 hrb hgb
 have hcase:p26=20∨p26=21∨p26=22∨p26=23∨p26=24∨p26=25∨p26<20:=by omega
 rcases hcase with rfl|rfl|rfl|rfl|rfl|rfl|h
 ·go_wp2_with (first|(go_at_call 25;(with_reducible refine (HK.out _).mono ?_);rintro e wz ⟨rfl,hwz⟩;have hwz:=hwz.symm;subst hwz)|(go_at_call 25;(with_reducible refine (HV.out _).mono ?_);rintro e wz ⟨rfl,hwz⟩;have hwz:=hwz.symm;subst hwz)|(go_at_call 25;(with_reducible refine (HS.out _).mono ?_);rintro e wz ⟨rfl,hwz⟩;have hwz:=hwz.symm;subst hwz))
  refine bodyPost_ret (v:=.agg #[.int .i64 2,.int .i64 0,.int .i64 0,.slice none 0 0]) (by simp[results,Tryz.results26,go_sem,r0,r1,r2,r3]) rfl ?_
  exact⟨⟨2,0,0,[]⟩,none,0,rfl,sync_fine,zn,SL.nil,((((T4.out.setCell (p:=⟨rb,0,none⟩) hwr _).setCell (p:=⟨rb,1,none⟩) hwr _).setCell (p:=⟨rb,2,none⟩) hwr _).setCell (p:=⟨rb,3,none⟩) hwr _)⟩
 ·go_wp2_with (first|(go_at_call 25;(with_reducible refine (HK.out _).mono ?_);rintro e wz ⟨rfl,hwz⟩;have hwz:=hwz.symm;subst hwz)|(go_at_call 25;(with_reducible refine (HV.out _).mono ?_);rintro e wz ⟨rfl,hwz⟩;have hwz:=hwz.symm;subst hwz)|(go_at_call 25;(with_reducible refine (HS.out _).mono ?_);rintro e wz ⟨rfl,hwz⟩;have hwz:=hwz.symm;subst hwz))
  refine bodyPost_ret (v:=.agg #[.int .i64 2,.int .i64 0,.int .i64 0,.slice none 0 0]) (by simp[results,Tryz.results26,go_sem,r0,r1,r2,r3]) rfl ?_
  exact⟨⟨2,0,0,[]⟩,none,0,rfl,sync_fine,zn,SL.nil,((((T4.out.setCell (p:=⟨rb,0,none⟩) hwr _).setCell (p:=⟨rb,1,none⟩) hwr _).setCell (p:=⟨rb,2,none⟩) hwr _).setCell (p:=⟨rb,3,none⟩) hwr _)⟩
 ·go_wp2_with (first|(go_at_call 25;(with_reducible refine (HK.out _).mono ?_);rintro e wz ⟨rfl,hwz⟩;have hwz:=hwz.symm;subst hwz)|(go_at_call 25;(with_reducible refine (HV.out _).mono ?_);rintro e wz ⟨rfl,hwz⟩;have hwz:=hwz.symm;subst hwz)|(go_at_call 25;(with_reducible refine (HS.out _).mono ?_);rintro e wz ⟨rfl,hwz⟩;have hwz:=hwz.symm;subst hwz))
  refine bodyPost_ret (v:=.agg #[.int .i64 2,.int .i64 0,.int .i64 0,.slice none 0 0]) (by simp[results,Tryz.results26,go_sem,r0,r1,r2,r3]) rfl ?_
  exact⟨⟨2,0,0,[]⟩,none,0,rfl,sync_fine,zn,SL.nil,((((T4.out.setCell (p:=⟨rb,0,none⟩) hwr _).setCell (p:=⟨rb,1,none⟩) hwr _).setCell (p:=⟨rb,2,none⟩) hwr _).setCell (p:=⟨rb,3,none⟩) hwr _)⟩
 ·go_wp2_with (first|(go_at_call 25;(with_reducible refine (HK.out _).mono ?_);rintro e wz ⟨rfl,hwz⟩;have hwz:=hwz.symm;subst hwz)|(go_at_call 25;(with_reducible refine (HV.out _).mono ?_);rintro e wz ⟨rfl,hwz⟩;have hwz:=hwz.symm;subst hwz)|(go_at_call 25;(with_reducible refine (HS.out _).mono ?_);rintro e wz ⟨rfl,hwz⟩;have hwz:=hwz.symm;subst hwz))
  refine bodyPost_ret (v:=.agg #[.int .i64 3,.int .i64 0,.int .i64 p80,.slice none 0 0]) (by simp[results,Tryz.results26,go_sem,r0,r1,r2,r3]) rfl ?_
  exact⟨⟨3,0,p80,[]⟩,none,0,rfl,cJ3 AO,zn,SL.nil,((((T4.out.setCell (p:=⟨rb,0,none⟩) hwr _).setCell (p:=⟨rb,1,none⟩) hwr _).setCell (p:=⟨rb,2,none⟩) hwr _).setCell (p:=⟨rb,3,none⟩) hwr _)⟩
 ·go_wp2_with (first|(go_at_call 25;(with_reducible refine (HK.out _).mono ?_);rintro e wz ⟨rfl,hwz⟩;have hwz:=hwz.symm;subst hwz)|(go_at_call 25;(with_reducible refine (HV.out _).mono ?_);rintro e wz ⟨rfl,hwz⟩;have hwz:=hwz.symm;subst hwz)|(go_at_call 25;(with_reducible refine (HS.out _).mono ?_);rintro e wz ⟨rfl,hwz⟩;have hwz:=hwz.symm;subst hwz))
  refine bodyPost_ret (v:=.agg #[.int .i64 4,.int .i64 0,.int .i64 0,.slice none 0 0]) (by simp[results,Tryz.results26,go_sem,r0,r1,r2,r3]) rfl ?_
  exact⟨⟨4,0,0,[]⟩,none,0,rfl,start_fine,zn,SL.nil,((((T4.out.setCell (p:=⟨rb,0,none⟩) hwr _).setCell (p:=⟨rb,1,none⟩) hwr _).setCell (p:=⟨rb,2,none⟩) hwr _).setCell (p:=⟨rb,3,none⟩) hwr _)⟩
 ·go_upto_region 11 with (first|(go_at_call 25;(with_reducible refine (HK.out _).mono ?_);rintro e wz ⟨rfl,hwz⟩;have hwz:=hwz.symm;subst hwz)|(go_at_call 25;(with_reducible refine (HV.out _).mono ?_);rintro e wz ⟨rfl,hwz⟩;have hwz:=hwz.symm;subst hwz)|(go_at_call 25;(with_reducible refine (HS.out _).mono ?_);rintro e wz ⟨rfl,hwz⟩;have hwz:=hwz.symm;subst hwz))
  go_region_held3 (fun w'=>w'.cell? ⟨gb,1,none⟩=some (.int .i64 g.session)∧w'.cell? ⟨gb,3,none⟩=some (.int .i64 g.key)∧w'.cell? ⟨gb,4,none⟩=some (.int .i64 g.value))
   (first
    | with_reducible exact⟨((Below.refl w2.heap.size w2).cell lg).trans c1,((Below.refl w2.heap.size w2).cell lg).trans c3,((Below.refl w2.heap.size w2).cell lg).trans c4⟩
    | with_reducible exact⟨((Below.refl w2.heap.size w2).drew.cell lg).trans c1,((Below.refl w2.heap.size w2).drew.cell lg).trans c3,((Below.refl w2.heap.size w2).drew.cell lg).trans c4⟩
    | with_reducible exact⟨(((Below.refl w2.heap.size w2).alloc (by first|exact zn|(simp;done)|(simp;omega)) _).cell lg).trans c1,(((Below.refl w2.heap.size w2).alloc (by first|exact zn|(simp;done)|(simp;omega)) _).cell lg).trans c3,(((Below.refl w2.heap.size w2).alloc (by first|exact zn|(simp;done)|(simp;omega)) _).cell lg).trans c4⟩
    | with_reducible exact⟨(((Below.refl w2.heap.size w2).alloc (by first|exact zn|(simp;done)|(simp;omega)) _).drew.cell lg).trans c1,(((Below.refl w2.heap.size w2).alloc (by first|exact zn|(simp;done)|(simp;omega)) _).drew.cell lg).trans c3,(((Below.refl w2.heap.size w2).alloc (by first|exact zn|(simp;done)|(simp;omega)) _).drew.cell lg).trans c4⟩
    | with_reducible exact⟨(((Below.refl w2.heap.size w2).drew.alloc (by first|exact zn|(simp;done)|(simp;omega)) _).cell lg).trans c1,(((Below.refl w2.heap.size w2).drew.alloc (by first|exact zn|(simp;done)|(simp;omega)) _).cell lg).trans c3,(((Below.refl w2.heap.size w2).drew.alloc (by first|exact zn|(simp;done)|(simp;omega)) _).cell lg).trans c4⟩
    | go_keep)
   (first
    | (go_at_call 25;(with_reducible refine (HS.out _).mono ?_);rintro e wz ⟨rfl,rfl⟩))
  all_goals
   go_wp2
   obtain⟨WE,hWE⟩:∃ WE,WE=(((((w2.setCell ⟨rb,0,none⟩ (.int .i64 1)).setCell ⟨rb,1,none⟩ (.int .i64 p8)).setCell ⟨rb,2,none⟩ (.int .i64 0)).setCell ⟨rb,3,none⟩ (.slice (some ⟨w2.heap.size,0,none⟩) 2 2)).alloc (.cells #[.int .u8 (IntKind.u8.wrap g.value),.int .u8 (IntKind.u8.wrap g.key)] 5)).drew:=⟨_,rfl⟩
   rw[← hWE]
   obtain⟨bx,hbx⟩:=aI8 g.value
   obtain⟨by',hby⟩:=aI8 g.key
   have hE:WE.heap[rb]?=some (.cells #[.int .i64 1,.int .i64 p8,.int .i64 0,.slice (some ⟨w2.heap.size,0,none⟩) 2 2] 49 (0,0)):=by
    rw[hWE]
    exact (aB9 _ _ (by simpa [World.setCell] using lr)).trans (heap_setCell_same _ rb 3 _ _ _ (heap_setCell_same _ rb 2 _ _ _ (heap_setCell_same _ rb 1 _ _ _ (heap_setCell_same _ rb 0 _ _ _ (T2.out)))))
   have hz:WE.heap[w2.heap.size]?=some (.cells #[bv bx,bv by'] 5 (0,0)):=by
    have h9:=aK ((((w2.setCell ⟨rb,0,none⟩ (.int .i64 1)).setCell ⟨rb,1,none⟩ (.int .i64 p8)).setCell ⟨rb,2,none⟩ (.int .i64 0)).setCell ⟨rb,3,none⟩ (.slice (some ⟨w2.heap.size,0,none⟩) 2 2)) #[.int .u8 (IntKind.u8.wrap g.value),.int .u8 (IntKind.u8.wrap g.key)] 5
    rw[show ((((w2.setCell ⟨rb,0,none⟩ (.int .i64 1)).setCell ⟨rb,1,none⟩ (.int .i64 p8)).setCell ⟨rb,2,none⟩ (.int .i64 0)).setCell ⟨rb,3,none⟩ (.slice (some ⟨w2.heap.size,0,none⟩) 2 2)).heap.size=w2.heap.size by simp[World.setCell]] at h9
    rw[hWE,← hbx,← hby]
    exact h9
   have hb1:Below w.heap.size w WE:=by
    rw[hWE]
    exact (((((T4.out.setCell (p:=⟨rb,0,none⟩) hwr _).setCell (p:=⟨rb,1,none⟩) hwr _).setCell (p:=⟨rb,2,none⟩) hwr _).setCell (p:=⟨rb,3,none⟩) hwr _).alloc (by simp[World.setCell];omega) _).drew
   clear hWE hbx hby
   have e0:=aA (cs:=[.int .i64 1,.int .i64 p8,.int .i64 0,.slice (some ⟨w2.heap.size,0,none⟩) 2 2]) hE 0
   have e1:=aA (cs:=[.int .i64 1,.int .i64 p8,.int .i64 0,.slice (some ⟨w2.heap.size,0,none⟩) 2 2]) hE 1
   have e2:=aA (cs:=[.int .i64 1,.int .i64 p8,.int .i64 0,.slice (some ⟨w2.heap.size,0,none⟩) 2 2]) hE 2
   have e3:=aA (cs:=[.int .i64 1,.int .i64 p8,.int .i64 0,.slice (some ⟨w2.heap.size,0,none⟩) 2 2]) hE 3
   simp only[List.getElem?_cons_zero,List.getElem?_cons_succ] at e0 e1 e2 e3
   refine bodyPost_ret (v:=.agg #[.int .i64 1,.int .i64 p8,.int .i64 0,.slice (some ⟨w2.heap.size,0,none⟩) 2 2]) (by simp[results,Tryz.results26,go_sem,e0,e1,e2,e3]) rfl ?_
   exact⟨⟨1,p8,0,[bx,by']⟩,some ⟨w2.heap.size,0,none⟩,2,rfl,bY1 ⟨hs0,hs8⟩ (by simp),zn,bs_twoT hz (by show w.heap.size≤w2.heap.size;omega),hb1⟩
 ·go_upto_region 12 with (first|(go_at_call 25;(with_reducible refine (HK.out _).mono ?_);rintro e wz ⟨rfl,hwz⟩;have hwz:=hwz.symm;subst hwz)|(go_at_call 25;(with_reducible refine (HV.out _).mono ?_);rintro e wz ⟨rfl,hwz⟩;have hwz:=hwz.symm;subst hwz)|(go_at_call 25;(with_reducible refine (HS.out _).mono ?_);rintro e wz ⟨rfl,hwz⟩;have hwz:=hwz.symm;subst hwz))
  go_region_held3 (fun w'=>w'.cell? ⟨gb,0,none⟩=some (.int .i64 g.kind)∧w'.cell? ⟨gb,1,none⟩=some (.int .i64 g.session)∧w'.cell? ⟨gb,2,none⟩=some (.int .i64 g.name)∧w'.cell? ⟨gb,3,none⟩=some (.int .i64 g.key)∧w'.cell? ⟨gb,4,none⟩=some (.int .i64 g.value))
   (first
    | with_reducible exact⟨(H5.out.cell lg).trans c0,(H5.out.cell lg).trans c1,(H5.out.cell lg).trans c2,(H5.out.cell lg).trans c3,(H5.out.cell lg).trans c4⟩
    | with_reducible exact⟨(H4.out.cell lg).trans c0,(H4.out.cell lg).trans c1,(H4.out.cell lg).trans c2,(H4.out.cell lg).trans c3,(H4.out.cell lg).trans c4⟩
    | with_reducible exact⟨((Below.refl w2.heap.size w2).drew.cell lg).trans c0,((Below.refl w2.heap.size w2).drew.cell lg).trans c1,((Below.refl w2.heap.size w2).drew.cell lg).trans c2,((Below.refl w2.heap.size w2).drew.cell lg).trans c3,((Below.refl w2.heap.size w2).drew.cell lg).trans c4⟩
    | go_keep)
   (first
    | (go_at_call 25;(with_reducible refine (HS.out _).mono ?_);rintro e wz ⟨rfl,rfl⟩)
    | (go_at_call 24;(with_reducible refine (cP6 _ g h1 h3 h4 h5).mono ?_);rintro e w4 ⟨r,A,a,B,b,C,c,D,d,rfl,s1,s2,s3,s4,hb4⟩;have H4:=zh (show Below w2.heap.size w2 w4 from (Below.refl w2.heap.size w2).drew.next hb4 zn);have S1:=zh s1.bz;have S2:=zh s2.bz;have S3:=zh s3.bz;have S4:=zh s4.bz;clear s1 s2 s3 s4)
    | (go_at_call 23;(with_reducible refine (cX3 _ ?hT p8 ⟨hs0,hs8⟩ A B C D r a b c d ?a1 ?a2 ?a3 ?a4).mono ?_);(case hT=>exact HH.out.below (T4.out.next H4.out T4.out.size));(case a1=>exact S1.out);(case a2=>exact S2.out);(case a3=>exact S3.out);(case a4=>exact S4.out);rintro e w5 ⟨x,A5,k5,rfl,hx,hxl,hs5,hb5⟩;have H5:=zh (show Below w2.heap.size w2 w5 from H4.out.next hb5 H4.out.size);have hE5:=(H5.out.block rb lr).trans T2.out;have r0:=aA (cs:=[.int .i64 0,.int .i64 0,.int .i64 0,.slice none 0 0]) hE5 0;have r1:=aA (cs:=[.int .i64 0,.int .i64 0,.int .i64 0,.slice none 0 0]) hE5 1;have r2:=aA (cs:=[.int .i64 0,.int .i64 0,.int .i64 0,.slice none 0 0]) hE5 2;have r3:=aA (cs:=[.int .i64 0,.int .i64 0,.int .i64 0,.slice none 0 0]) hE5 3;have f0:=aD (cs:=[.int .i64 0,.int .i64 0,.int .i64 0,.slice none 0 0]) hE5 0;have f1:=aD (cs:=[.int .i64 0,.int .i64 0,.int .i64 0,.slice none 0 0]) hE5 1;have f2:=aD (cs:=[.int .i64 0,.int .i64 0,.int .i64 0,.slice none 0 0]) hE5 2;have f3:=aD (cs:=[.int .i64 0,.int .i64 0,.int .i64 0,.slice none 0 0]) hE5 3;simp only[List.getElem?_cons_zero,List.getElem?_cons_succ] at r0 r1 r2 r3;have HE5:=zh hE5;have S5:=zh (show Bs (aB w2.heap.size) w5 A5 x.data from hs5.blo H4.out.size);have Hx:=zh hx;clear hE5 hs5 hx))
  all_goals
   go_wp2
   refine bodyPost_ret (v:=.agg #[.int .i64 x.kind,.int .i64 x.session,.int .i64 x.keep,.slice A5 x.data.length k5]) (by simp[results,Tryz.results26,go_sem,r0,r1,r2,r3]) rfl ?_
   exact⟨x,A5,k5,rfl,Hx.out,hxl,(S5.out.bsame (((((((aC.refl _ w5).setCell (p:=⟨rb,0,none⟩) (fun h=>by simp only[aB] at h;omega) _).setCell (p:=⟨rb,1,none⟩) (fun h=>by simp only[aB] at h;omega) _).setCell (p:=⟨rb,2,none⟩) (fun h=>by simp only[aB] at h;omega) _).setCell (p:=⟨rb,3,none⟩) (fun h=>by simp only[aB] at h;omega) _)))).blo T4.out.size,((((((T4.out.next H5.out T4.out.size).setCell (p:=⟨rb,0,none⟩) hwr _).setCell (p:=⟨rb,1,none⟩) hwr _).setCell (p:=⟨rb,2,none⟩) hwr _).setCell (p:=⟨rb,3,none⟩) hwr _))⟩
def GrR (_:Nat→Prop) (_:World) (cs:List Value) (g:Gr):Prop :=
 cs=[.int .i64 g.kind,.int .i64 g.session,.int .i64 g.name,.int .i64 g.key,.int .i64 g.value]∧aS3 g.kind∧aS3 g.session∧aS3 g.name∧aS3 g.key∧aS3 g.value
theorem grR_stays:bI GrR:=⟨fun _ _ _ _ _ _ h=>h,fun _ _ _ _ _ _ h=>h⟩
abbrev Grs (S:Nat→Prop) (w:World) (A:Option Addr) (l:List Gr):Prop:=SL 5 GrR S w A l
theorem grs_at {S:Nat→Prop} {w:World} {A:Option Addr} {l:List Gr} (h:Grs S w A l) {k:Nat} (hk:k<l.length) :
  ∃ b off,A=some ⟨b,off,none⟩∧b<w.heap.size∧w.cell? ⟨b,off+k*5,none⟩=some (.int .i64 l[k].kind)∧w.cell? ⟨b,off+k*5+1,none⟩=some (.int .i64 l[k].session)∧w.cell? ⟨b,off+k*5+2,none⟩=some (.int .i64 l[k].name)∧w.cell? ⟨b,off+k*5+3,none⟩=some (.int .i64 l[k].key)∧w.cell? ⟨b,off+k*5+4,none⟩=some (.int .i64 l[k].value)∧aS3 l[k].kind∧aS3 l[k].session∧aS3 l[k].name∧aS3 l[k].key∧aS3 l[k].value:=by
 obtain⟨b,off,cs,hA,hb,hlt,hlen,hc,rfl,h1⟩:=h.at hk
 exact⟨b,off,hA,hlt,hc 0 AO,hc 1 AO,hc 2 AO,hc 3 AO,hc 4 AO,h1⟩
theorem info_acT:(Tryz.prog.info? 49).map (fun i=>(i.zero.map fun z=>z.cells.size,i.size,i.bytes))=some (some 4,4,48):=by kernel_rfl
theorem ac_parts:∃ i z,Tryz.prog.info? 49=some i∧i.zero=some z∧i.size=4∧i.bytes=48∧z.cells.size=4:=by
 have h:=info_acT
 cases hi:Tryz.prog.info? 49 with
 | none=>rw[hi] at h;cases h
 | some i =>
  rw[hi] at h
  simp only[Option.map_some,Option.some.injEq,Prod.mk.injEq,Option.map_eq_some_iff] at h
  obtain⟨⟨z,hz,hc⟩,h2,h3⟩:=h
  exact⟨i,z,rfl,hz,h2,h3,hc⟩
def RetAcs (w:World) (n:Nat) (e:Ending) (w':World):Prop :=
 ∃ (l:List Ac) (v:Value),e=.returned v∧l.length≤n∧(∀ a ∈ l,aB6 a=0)∧Own 4 AcR (aB w.heap.size) w' w.heap.size 49 v l∧Below w.heap.size w w'
theorem cX5 (w:World) (hH:bL w) (A:Option Addr) (l:List Gr) (c:Nat) (n:Nat) (nI:Int) (hn:nI=n) (hn2:n≤1000) (ha:Grs All w A l) (hl:l.length≤big) :
  Calls Tryz.prog 15 #[.slice A l.length c,.int .i64 nI] w (RetAcs w n):=by
 unfold big at hl
 subst hn
 have HH:=zh hH
 have Ha:=zh ha
 obtain⟨i0,z0,hi0,hz0,hz1,hz2,hz3⟩:=ac_parts
 clear hH ha
 go_enter Tryz.func15,Tryz.ntmps15
 go_wp2
 go_loopw [5,6] (fun v i wr=>∃ (k:Nat) (xs:List Ac),k≤n∧i=.int .i64 k∧xs.length=k∧(∀ a ∈ xs,aB6 a=0)∧Own 4 AcR (aB w.heap.size) wr w.heap.size 49 v xs∧Below w.heap.size w wr) (fun _ i _=>n - (intOf i).toNat)
 case atStart=>exact⟨0,[],AO,rfl,rfl,(fun a h=>by cases h),Own.nil _ _ _,Below.refl _ _⟩
 case round =>
  obtain⟨k,xs,hk,rfl,hxl,hxs,hown,hbr⟩:=hrel
  have Hxl:=zh hxl
  have hx63:xs.length≤1000:=by omega
  have Hxs:=zh hxs
  have Hown:=zh hown
  have Hbr:=zh hbr
  obtain⟨VA,vc,rfl⟩:=aP6 hown
  clear hxs hown hbr hxl
  by_cases hlt:k<l.length∧k<n
  ·obtain⟨hlt,hkn⟩:=hlt
   obtain⟨b,off,rfl,hab,a0,a1,a2,a3,a4,q0,q1,q2,q3,q4⟩:=grs_at (Ha.out.below grR_stays Hbr.out) hlt
   have i0':(0:Int)≤(k:Int):=by omega
   have i1':(k:Int)<(l.length:Int):=by omega
   have i2':(k:Int)<(n:Int):=by omega
   generalize l[k]=g at *
   go_wp2_with (first
    | (go_at_call 26;(with_reducible refine (cX4 _ ?hT g q0 q1 q2 q3 q4).mono ?_);(case hT=>exact HH.out.below Hbr.out);rintro e1 w1 ⟨x,A1,c1,rfl,hx,hxl1,hs1,hb1⟩;have Hx:=zh hx;have S1:=zh hs1;have Hb1:=zh hb1;clear hx hs1)
    | (at_builtin;refine aM3 acR_stays (S:=aB w.heap.size) _ rfl _ _ _ rfl w.heap.size 49 i0 _ 4 48 Tryz.underlying23 hi0 hz0 hz1 hz2 hz3 (by decide) _ xs rfl ?hown _ _ [.int .i64 x.kind,.int .i64 x.session,.int .i64 x.keep,.slice A1 x.data.length c1] rfl rfl (aE6 _ _ [.int .i64 x.kind,.int .i64 x.session,.int .i64 x.keep,.slice A1 x.data.length c1] _ (by simp)) (by simp[Value.oneCell']) ?hm ?hby ?hba x ?hd ?_;(case hown=>exact ((Hown.out.below acR_stays Hb1.out).below acR_stays ((Below.refl _ _).alloc zn _)).below acR_stays ((Below.refl _ _).alloc zn _));(case hm=>(simp only[maxLen];omega));(case hby=>omega);(case hba=>(have:=Hbr.out.size;have:=Hb1.out.size;simp;omega));(case hd=>exact⟨A1,c1,rfl,hxl1,((S1.out.bbelow ((Below.refl _ _).alloc zn _)).bbelow ((Below.refl _ _).alloc zn _)).bless fun b _ h=>⟨Nat.le_trans Hbr.out.size h,Hown.out.apart _ zn b h⟩⟩);intro v' w3 hown3 hb3))
   go_roundw
   case rel=>exact⟨k+1,xs++[x],AO,by go_num,by rw[List.length_append,Hxl.out];rfl,(fun a ha=>by
    rcases List.mem_append.1 ha with h|h
    ·exact Hxs.out a h
    ·rw[List.mem_singleton] at h;rw[h];exact Hx.out),hown3,((Hbr.out.next Hb1.out Hbr.out.size).alloc (Nat.le_trans Hbr.out.size Hb1.out.size) _).alloc (by have:=Hbr.out.size;have:=Hb1.out.size;simp;omega) _ |>.trans hb3⟩
   case measure=>simp[intOf];omega
  ·by_cases hlt2:k<l.length
   ·have hkn:n≤k:=by omega
    have i0':(k:Int)<(l.length:Int):=by omega
    have i2':(n:Int)≤(k:Int):=by omega
    clear hlt
    go_wp2
    go_ret
    exact⟨xs,_,rfl,by rw[Hxl.out];exact hk,Hxs.out,Hown.out,Hbr.out⟩
   ·have i1':(l.length:Int)≤(k:Int):=by omega
    clear hlt
    go_wp2
    go_ret
    exact⟨xs,_,rfl,by rw[Hxl.out];exact hk,Hxs.out,Hown.out,Hbr.out⟩
end Go.Proofs.YtlhpfgpagggdlaaGreatDoor
