/- TopFr: Walk: TopFresh. The conditions of each are in its words. -/
import Derived.Test.YtodopbnhkkkcbaaGreatDoorKTopV
import Derived.Test.YtodopbnhkkkcbaaGreatDoorKHidK
namespace Go.Proofs.YtodopbnhkkkcbaaGreatDoor
open Go.RowKit
set_option linter.unusedVariables false
set_option linter.unusedSimpArgs false
set_option maxRecDepth 100000
set_option maxHeartbeats 8000000
theorem ask_sure (r:Rq) (hf:aQ r=0):∃ d:List UInt8,Hid (∀ (w:World) (A B C D:Option Addr) (a b c d':Nat),bL w→Bs All w A r.name→Bs All w B r.key→Bs All w C r.last→Bs All w D r.value→Calls Tryz.prog 13 #[.int .i64 0,.agg #[.int .i64 r.kind,.slice A r.name.length a,.slice B r.key.length b,.slice C r.last.length c,.slice D r.value.length d']] w (RetAsk w 0 d))∧aB6 ⟨1,((0:Nat):Int),0,d⟩=0∧aM2 d=(r,0)∧d.length≤4000 :=
 ⟨(bK9 r).1,zh fun w A B C D a b c d' hH hA hB hC hD=>dE2 w hH 0 AO A B C D r a b c d' hA hB hC hD,cY8 AO (cY0 hf).2,(cY0 hf).1,(cY0 hf).2⟩
theorem dP0 (w:World) (hT:bD w) (hH:bL w) (g:Gr) (h3:aS3 g.name) (h4:aS3 g.key) :
  Calls Tryz.prog 5 #[.agg #[.int .i64 g.kind,.int .i64 g.session,.int .i64 g.name,.int .i64 g.key,.int .i64 g.value]] w (bQ w (.bool true)):=by
 have hwg:=(Below.refl w.heap.size w).alloc zn (.cells #[.int .i64 g.kind,.int .i64 g.session,.int .i64 g.name,.int .i64 g.key,.int .i64 g.value] 24)
 have hbg:=aK w #[.int .i64 g.kind,.int .i64 g.session,.int .i64 g.name,.int .i64 g.key,.int .i64 g.value] 24
 have g2:=aA (cs:=[.int .i64 g.kind,.int .i64 g.session,.int .i64 g.name,.int .i64 g.key,.int .i64 g.value]) hbg 2
 have g3:=aA (cs:=[.int .i64 g.kind,.int .i64 g.session,.int .i64 g.name,.int .i64 g.key,.int .i64 g.value]) hbg 3
 simp only[List.getElem?_cons_zero,List.getElem?_cons_succ] at g2 g3
 have HReq:=zh (show ∀ W:World,Calls Tryz.prog 11 #[.agg #[.int .i64 19,.int .i64 0,.int .i64 g.name,.int .i64 g.key,.int .i64 0]] W (RetRq1 ⟨19,0,g.name,g.key,0⟩ W) from fun W=>cP6 W ⟨19,0,g.name,g.key,0⟩ (show aS3 (19:Int) by unfold aS3;omega) h3 h4 (show aS3 (0:Int) by unfold aS3;omega))
 have Hwg:=zh hwg
 have HT:=zh hT
 have HH:=zh hH
 go_enter Tryz.func5,Tryz.ntmps5
 go_upto_region 1 with fail
 obtain⟨wg,hwge⟩:∃ wg,wg=w.alloc (.cells #[.int .i64 g.kind,.int .i64 g.session,.int .i64 g.name,.int .i64 g.key,.int .i64 g.value] 24):=⟨_,rfl⟩
 rw[← hwge] at g2 g3 Hwg ⊢
 clear hwg hbg hwge hT hH h3 h4
 go_upto_region 2 with (go_at_call 11;(with_reducible refine (HReq.out _).mono ?_);rintro e5 u5 ⟨r,A5,a5,B5,b5,C5,c5,D5,d5,rfl,hfine,s1,s2,s3,s4,hb5⟩;have S1:=zh s1;have S2:=zh s2;have S3:=zh s3;have S4:=zh s4;have Hfine:=zh hfine;have Hb5:=zh hb5;clear s1 s2 s3 s4 hb5 hfine)
 obtain⟨hf0,hf1,_,hf3⟩:=Hfine.out
 obtain⟨hk8,hla,hva,hnl⟩:=hf1 rfl
 have hr:r=⟨8,r.name,r.key,[],[]⟩:=by cases r;simp at hk8 hla hva;simp[hk8,hla,hva]
 obtain⟨d,HAsk,hdf,hdd,hdl⟩:=ask_sure r hf0
 obtain⟨hnf,hkf⟩:=rq_eight hf0 hk8
 obtain⟨p,HRa,hpf,hpr,hpo,hpi,hver⟩:=fresh_ran (hr ▸ hdd) hdf hnf hkf
 have hrt:∀ W:World,bD W→Calls Tryz.prog 18 #[.slice none 0 0] W (bD2 W (noneS,0)):=fun W hT=>bU1 W hT none [] 0 SL.nil
 have hln:noneS.length=32:=aO2 _
 generalize noneS=ns at hpr hver hrt hln
 have HRt:=zh hrt
 have Hln:=zh hln
 clear hrt hln
 have HVer:=zh hver
 have hbx:=aK u5 #[.int .i64 r.kind,.slice A5 r.name.length a5,.slice B5 r.key.length b5,.slice C5 r.last.length c5,.slice D5 r.value.length d5] 29
 have x1:=aA (cs:=[.int .i64 r.kind,.slice A5 r.name.length a5,.slice B5 r.key.length b5,.slice C5 r.last.length c5,.slice D5 r.value.length d5]) hbx 1
 have x2:=aA (cs:=[.int .i64 r.kind,.slice A5 r.name.length a5,.slice B5 r.key.length b5,.slice C5 r.last.length c5,.slice D5 r.value.length d5]) hbx 2
 have x0:=aA (cs:=[.int .i64 r.kind,.slice A5 r.name.length a5,.slice B5 r.key.length b5,.slice C5 r.last.length c5,.slice D5 r.value.length d5]) hbx 0
 have x3:=aA (cs:=[.int .i64 r.kind,.slice A5 r.name.length a5,.slice B5 r.key.length b5,.slice C5 r.last.length c5,.slice D5 r.value.length d5]) hbx 3
 have x4:=aA (cs:=[.int .i64 r.kind,.slice A5 r.name.length a5,.slice B5 r.key.length b5,.slice C5 r.last.length c5,.slice D5 r.value.length d5]) hbx 4
 simp only[List.getElem?_cons_zero,List.getElem?_cons_succ] at x0 x1 x2 x3 x4
 have hwx:=Hb5.out.alloc Hb5.out.size (.cells #[.int .i64 r.kind,.slice A5 r.name.length a5,.slice B5 r.key.length b5,.slice C5 r.last.length c5,.slice D5 r.value.length d5] 29)
 have hwz:=(Below.refl u5.heap.size u5).alloc zn (.cells #[.int .i64 r.kind,.slice A5 r.name.length a5,.slice B5 r.key.length b5,.slice C5 r.last.length c5,.slice D5 r.value.length d5] 29)
 have HbX:=zh (Hwg.out.next hwx Hwg.out.size)
 have T1:=zh (S1.out.bz.bbelow hwz)
 have T2:=zh (S2.out.bz.bbelow hwz)
 have T3:=zh (S3.out.bz.bbelow hwz)
 have T4:=zh (S4.out.bz.bbelow hwz)
 have lX:=(Array.getElem?_eq_some_iff.1 hbx).1
 obtain⟨WX,hWX⟩:∃ WX,WX=u5.alloc (.cells #[.int .i64 r.kind,.slice A5 r.name.length a5,.slice B5 r.key.length b5,.slice C5 r.last.length c5,.slice D5 r.value.length d5] 29):=⟨_,rfl⟩
 rw[← hWX] at x0 x1 x2 x3 x4 HbX T1 T2 T3 T4 lX ⊢
 obtain⟨bx,hbxe⟩:∃ bx,bx=u5.heap.size:=⟨_,rfl⟩
 rw[← hbxe] at x0 x1 x2 x3 x4 lX ⊢
 have hnl':r.name.length≤big:=by unfold big;omega
 have Hpf:=zh hpf
 have Hpr:=zh hpr
 have Hpo:=zh hpo
 have Hpi:=zh hpi
 clear hbx hwx hwz hWX hbxe hf0 hf1 hf3 hk8 hla hva hnl hr hdf hdd hdl hnf hkf hpf hpr hpo hpi hver S1 S2 S3 S4 Hb5 Hfine g2 g3 Hwg HReq
 go_upto_region 3 with (first|(go_at_call 13;(with_reducible refine (HAsk.out _ A5 B5 C5 D5 a5 b5 c5 d5 ?hT ?h1 ?h2 ?h3 ?h4).mono ?_);(case hT=>exact HH.out.below HbX.out);(case h1=>exact T1.out);(case h2=>exact T2.out);(case h3=>exact T3.out);(case h4=>exact T4.out);rintro e3 y3 ⟨A3,c3,rfl,hc3,hs3,hb3⟩;have Q3:=zh hs3.bz;have Hb3:=zh hb3;clear hs3 hb3)|(go_at_call 12;(with_reducible refine (HRa.out _ (some ⟨_,0,none⟩) 1 1 rfl ?hT ?hH ?ha).mono ?_);(case hT=>exact HT.out.below (HbX.out.next (Hb3.out.alloc Hb3.out.size _) HbX.out.size));(case hH=>exact HH.out.below (HbX.out.next (Hb3.out.alloc Hb3.out.size _) HbX.out.size));(case ha=>exact sl_one _ _ [.int .i64 1,.int .i64 0,.int .i64 0,.slice A3 d.length c3] _ (aK _ _ _) rfl _ ⟨A3,c3,rfl,hc3,Q3.out.bbelow ((Below.refl _ _).alloc zn _)⟩ trivial);rintro e6 y6 ⟨F6,f6,R6,r6,rfl,s6,p6,v6,hb6⟩;have Hb6:=zh ((Hb3.out.alloc Hb3.out.size _).next hb6 (Hb3.out.alloc Hb3.out.size _).size);have V6:=zh v6;clear s6 p6 v6 hb6))
 have HbR:=zh (Below.refl WX.heap.size WX)
 have hb6:=Hb6.out
 obtain⟨rb,ro,V,v,P,pn,Q,qn,sa,sn,K,kn,X,xn,sb,sm,K',kn',X',xn',hR6,hrlt,hcs,_,_,hv3,⟨hv4,hv5,hv6⟩,hv7,hv8,hv9⟩:=rep_vals V6.out (show 0<[p].length by simp)
 subst hR6
 simp only[List.getElem_cons_zero] at hcs hv3 hv4 hv5 hv6 hv7 hv8 hv9
 have w0:=hcs 0 AO
 have w1:=hcs 1 AO
 have w2:=hcs 2 AO
 have w3:=hcs 3 AO
 have w4:=hcs 4 AO
 have w5:=hcs 5 AO
 have w6:=hcs 6 AO
 have w7:=hcs 7 AO
 have w8:=hcs 8 AO
 have w9:=hcs 9 AO
 have w10:=hcs 10 AO
 have w11:=hcs 11 AO
 have w12:=hcs 12 AO
 have w13:=hcs 13 AO
 have w14:=hcs 14 AO
 simp only[dE6,Nat.zero_mul,Nat.add_zero,List.getElem?_cons_zero,List.getElem?_cons_succ] at w0 w1 w2 w3 w4 w5 w6 w7 w8 w9 w10 w11 w12 w13 w14
 obtain⟨WO,hWWO⟩:∃ WO,WO=y6.alloc (.cells #[.bool true,.int .i64 0,.int .i64 0,.slice F6 0 f6,.slice (some ⟨rb,ro,none⟩) 1 r6] 34):=⟨_,rfl⟩
 obtain⟨on,hon⟩:∃ on,on=y6.heap.size:=⟨_,rfl⟩
 have hbq:=hb6.alloc hb6.size (.cells #[.bool true,.int .i64 0,.int .i64 0,.slice F6 0 f6,.slice (some ⟨rb,ro,none⟩) 1 r6] 34)
 rw[← hWWO] at hbq
 have hq:WO.heap[on]?=some (.cells #[.bool true,.int .i64 0,.int .i64 0,.slice F6 0 f6,.slice (some ⟨rb,ro,none⟩) 1 r6] 34 (0,0)):=by rw[hWWO,hon];exact aK _ _ _
 replace x1:=(hbq.cell (p:=⟨bx,1,none⟩) lX).trans x1
 replace x2:=(hbq.cell (p:=⟨bx,2,none⟩) lX).trans x2
 replace lX:=Nat.lt_of_lt_of_le lX hbq.size
 replace T1:=zh (T1.out.bbelow hbq)
 replace T2:=zh (T2.out.bbelow hbq)
 have lO:=(Array.getElem?_eq_some_iff.1 hq).1
 have o4:=aA (cs:=[.bool true,.int .i64 0,.int .i64 0,.slice F6 0 f6,.slice (some ⟨rb,ro,none⟩) 1 r6]) hq 4
 simp only[List.getElem?_cons_zero,List.getElem?_cons_succ] at o4
 replace HbR:=zh (HbR.out.next hbq HbR.out.size)
 have hyW:Below y6.heap.size y6 WO:=by rw[hWWO];exact (Below.refl _ _).alloc zn _
 rw[← hWWO,← hon]
 replace w0:=(hyW.cell (p:=⟨rb,ro,none⟩) hrlt).trans w0
 replace w1:=(hyW.cell (p:=⟨rb,ro+1,none⟩) hrlt).trans w1
 replace w2:=(hyW.cell (p:=⟨rb,ro+2,none⟩) hrlt).trans w2
 replace w3:=(hyW.cell (p:=⟨rb,ro+3,none⟩) hrlt).trans w3
 replace w4:=(hyW.cell (p:=⟨rb,ro+4,none⟩) hrlt).trans w4
 replace w5:=(hyW.cell (p:=⟨rb,ro+5,none⟩) hrlt).trans w5
 replace w6:=(hyW.cell (p:=⟨rb,ro+6,none⟩) hrlt).trans w6
 replace w7:=(hyW.cell (p:=⟨rb,ro+7,none⟩) hrlt).trans w7
 replace w8:=(hyW.cell (p:=⟨rb,ro+8,none⟩) hrlt).trans w8
 replace w9:=(hyW.cell (p:=⟨rb,ro+9,none⟩) hrlt).trans w9
 replace w10:=(hyW.cell (p:=⟨rb,ro+10,none⟩) hrlt).trans w10
 replace w11:=(hyW.cell (p:=⟨rb,ro+11,none⟩) hrlt).trans w11
 replace w12:=(hyW.cell (p:=⟨rb,ro+12,none⟩) hrlt).trans w12
 replace w13:=(hyW.cell (p:=⟨rb,ro+13,none⟩) hrlt).trans w13
 replace w14:=(hyW.cell (p:=⟨rb,ro+14,none⟩) hrlt).trans w14
 have VQ:=zh (hv3.bbelow hyW)
 have J2:=zh (hv5.bbelow hyW)
 have J3:=zh (hv6.bbelow hyW)
 have J5:=zh (hv8.bbelow hyW)
 have J6:=zh (hv9.bbelow hyW)
 have J1:=zh (hv4.below stR_stays hyW)
 have J4:=zh (hv7.below stR_stays hyW)
 replace hrlt:=Nat.lt_of_lt_of_le hrlt hyW.size
 clear hWWO hon hbq hq hyW hb6 Hb6 V6 HRa
 clear hcs hv3 hv4 hv5 hv6 hv7 hv8 hv9
 go_upto_region 4 with (go_at_call 18;(with_reducible refine (HRt.out _ ?hT).mono ?_);(case hT=>exact HT.out.below (HbX.out.next HbR.out HbX.out.size));rintro e7 y7 ⟨A7,c7,rfl,hs7,hb7⟩;have S7:=zh hs7.bz;have Hb7:=zh hb7;clear hs7 hb7)
 have hb7:=Hb7.out
 replace x1:=(hb7.cell (p:=⟨bx,1,none⟩) lX).trans x1
 replace x2:=(hb7.cell (p:=⟨bx,2,none⟩) lX).trans x2
 replace o4:=(hb7.cell (p:=⟨on,4,none⟩) lO).trans o4
 replace w0:=(hb7.cell (p:=⟨rb,ro,none⟩) hrlt).trans w0
 replace w1:=(hb7.cell (p:=⟨rb,ro+1,none⟩) hrlt).trans w1
 replace w2:=(hb7.cell (p:=⟨rb,ro+2,none⟩) hrlt).trans w2
 replace w3:=(hb7.cell (p:=⟨rb,ro+3,none⟩) hrlt).trans w3
 replace w4:=(hb7.cell (p:=⟨rb,ro+4,none⟩) hrlt).trans w4
 replace w5:=(hb7.cell (p:=⟨rb,ro+5,none⟩) hrlt).trans w5
 replace w6:=(hb7.cell (p:=⟨rb,ro+6,none⟩) hrlt).trans w6
 replace w7:=(hb7.cell (p:=⟨rb,ro+7,none⟩) hrlt).trans w7
 replace w8:=(hb7.cell (p:=⟨rb,ro+8,none⟩) hrlt).trans w8
 replace w9:=(hb7.cell (p:=⟨rb,ro+9,none⟩) hrlt).trans w9
 replace w10:=(hb7.cell (p:=⟨rb,ro+10,none⟩) hrlt).trans w10
 replace w11:=(hb7.cell (p:=⟨rb,ro+11,none⟩) hrlt).trans w11
 replace w12:=(hb7.cell (p:=⟨rb,ro+12,none⟩) hrlt).trans w12
 replace w13:=(hb7.cell (p:=⟨rb,ro+13,none⟩) hrlt).trans w13
 replace w14:=(hb7.cell (p:=⟨rb,ro+14,none⟩) hrlt).trans w14
 replace lX:=Nat.lt_of_lt_of_le lX hb7.size
 replace lO:=Nat.lt_of_lt_of_le lO hb7.size
 replace hrlt:=Nat.lt_of_lt_of_le hrlt hb7.size
 replace T1:=zh (T1.out.bbelow hb7)
 replace T2:=zh (T2.out.bbelow hb7)
 replace VQ:=zh (VQ.out.bbelow hb7)
 replace J2:=zh (J2.out.bbelow hb7)
 replace J3:=zh (J3.out.bbelow hb7)
 replace J5:=zh (J5.out.bbelow hb7)
 replace J6:=zh (J6.out.bbelow hb7)
 replace J1:=zh (J1.out.below stR_stays hb7)
 replace J4:=zh (J4.out.below stR_stays hb7)
 replace HbR:=zh (HbR.out.next hb7 HbR.out.size)
 clear hb7 Hb7 HRt
 go_upto_region 7 with fail
 have Hbz:=Below.refl y7.heap.size y7
 obtain⟨WP,hWWP⟩:∃ WP,WP=y7.alloc (.cells #[.int .i64 p.session,.int .i64 p.code,.int .i64 p.turn,.bool p.found,.slice V p.value.length v,.slice P p.pairs.length pn,.slice Q p.root.length qn,.bool p.outer.empty,.slice sa p.outer.steps.length sn,.slice K p.outer.pair.1.length kn,.slice X p.outer.pair.2.length xn,.bool p.inner.empty,.slice sb p.inner.steps.length sm,.slice K' p.inner.pair.1.length kn',.slice X' p.inner.pair.2.length xn'] 48):=⟨_,rfl⟩
 obtain⟨gn,hgn⟩:∃ gn,gn=y7.heap.size:=⟨_,rfl⟩
 have hbq:=Hbz.alloc Hbz.size (.cells #[.int .i64 p.session,.int .i64 p.code,.int .i64 p.turn,.bool p.found,.slice V p.value.length v,.slice P p.pairs.length pn,.slice Q p.root.length qn,.bool p.outer.empty,.slice sa p.outer.steps.length sn,.slice K p.outer.pair.1.length kn,.slice X p.outer.pair.2.length xn,.bool p.inner.empty,.slice sb p.inner.steps.length sm,.slice K' p.inner.pair.1.length kn',.slice X' p.inner.pair.2.length xn'] 48)
 rw[← hWWP] at hbq
 have hq:WP.heap[gn]?=some (.cells #[.int .i64 p.session,.int .i64 p.code,.int .i64 p.turn,.bool p.found,.slice V p.value.length v,.slice P p.pairs.length pn,.slice Q p.root.length qn,.bool p.outer.empty,.slice sa p.outer.steps.length sn,.slice K p.outer.pair.1.length kn,.slice X p.outer.pair.2.length xn,.bool p.inner.empty,.slice sb p.inner.steps.length sm,.slice K' p.inner.pair.1.length kn',.slice X' p.inner.pair.2.length xn'] 48 (0,0)):=by rw[hWWP,hgn];exact aK _ _ _
 replace x1:=(hbq.cell (p:=⟨bx,1,none⟩) lX).trans x1
 replace x2:=(hbq.cell (p:=⟨bx,2,none⟩) lX).trans x2
 replace o4:=(hbq.cell (p:=⟨on,4,none⟩) lO).trans o4
 replace lX:=Nat.lt_of_lt_of_le lX hbq.size
 replace lO:=Nat.lt_of_lt_of_le lO hbq.size
 replace hrlt:=Nat.lt_of_lt_of_le hrlt hbq.size
 replace T1:=zh (T1.out.bbelow hbq)
 replace T2:=zh (T2.out.bbelow hbq)
 replace VQ:=zh (VQ.out.bbelow hbq)
 replace J2:=zh (J2.out.bbelow hbq)
 replace J3:=zh (J3.out.bbelow hbq)
 replace J5:=zh (J5.out.bbelow hbq)
 replace J6:=zh (J6.out.bbelow hbq)
 replace S7:=zh (S7.out.bbelow hbq)
 replace J1:=zh (J1.out.below stR_stays hbq)
 replace J4:=zh (J4.out.below stR_stays hbq)
 have lG:=(Array.getElem?_eq_some_iff.1 hq).1
 have p0:=aA (cs:=[.int .i64 p.session,.int .i64 p.code,.int .i64 p.turn,.bool p.found,.slice V p.value.length v,.slice P p.pairs.length pn,.slice Q p.root.length qn,.bool p.outer.empty,.slice sa p.outer.steps.length sn,.slice K p.outer.pair.1.length kn,.slice X p.outer.pair.2.length xn,.bool p.inner.empty,.slice sb p.inner.steps.length sm,.slice K' p.inner.pair.1.length kn',.slice X' p.inner.pair.2.length xn']) hq 0
 have p1:=aA (cs:=[.int .i64 p.session,.int .i64 p.code,.int .i64 p.turn,.bool p.found,.slice V p.value.length v,.slice P p.pairs.length pn,.slice Q p.root.length qn,.bool p.outer.empty,.slice sa p.outer.steps.length sn,.slice K p.outer.pair.1.length kn,.slice X p.outer.pair.2.length xn,.bool p.inner.empty,.slice sb p.inner.steps.length sm,.slice K' p.inner.pair.1.length kn',.slice X' p.inner.pair.2.length xn']) hq 1
 have p2:=aA (cs:=[.int .i64 p.session,.int .i64 p.code,.int .i64 p.turn,.bool p.found,.slice V p.value.length v,.slice P p.pairs.length pn,.slice Q p.root.length qn,.bool p.outer.empty,.slice sa p.outer.steps.length sn,.slice K p.outer.pair.1.length kn,.slice X p.outer.pair.2.length xn,.bool p.inner.empty,.slice sb p.inner.steps.length sm,.slice K' p.inner.pair.1.length kn',.slice X' p.inner.pair.2.length xn']) hq 2
 have p3:=aA (cs:=[.int .i64 p.session,.int .i64 p.code,.int .i64 p.turn,.bool p.found,.slice V p.value.length v,.slice P p.pairs.length pn,.slice Q p.root.length qn,.bool p.outer.empty,.slice sa p.outer.steps.length sn,.slice K p.outer.pair.1.length kn,.slice X p.outer.pair.2.length xn,.bool p.inner.empty,.slice sb p.inner.steps.length sm,.slice K' p.inner.pair.1.length kn',.slice X' p.inner.pair.2.length xn']) hq 3
 have p4:=aA (cs:=[.int .i64 p.session,.int .i64 p.code,.int .i64 p.turn,.bool p.found,.slice V p.value.length v,.slice P p.pairs.length pn,.slice Q p.root.length qn,.bool p.outer.empty,.slice sa p.outer.steps.length sn,.slice K p.outer.pair.1.length kn,.slice X p.outer.pair.2.length xn,.bool p.inner.empty,.slice sb p.inner.steps.length sm,.slice K' p.inner.pair.1.length kn',.slice X' p.inner.pair.2.length xn']) hq 4
 have p5:=aA (cs:=[.int .i64 p.session,.int .i64 p.code,.int .i64 p.turn,.bool p.found,.slice V p.value.length v,.slice P p.pairs.length pn,.slice Q p.root.length qn,.bool p.outer.empty,.slice sa p.outer.steps.length sn,.slice K p.outer.pair.1.length kn,.slice X p.outer.pair.2.length xn,.bool p.inner.empty,.slice sb p.inner.steps.length sm,.slice K' p.inner.pair.1.length kn',.slice X' p.inner.pair.2.length xn']) hq 5
 have p6:=aA (cs:=[.int .i64 p.session,.int .i64 p.code,.int .i64 p.turn,.bool p.found,.slice V p.value.length v,.slice P p.pairs.length pn,.slice Q p.root.length qn,.bool p.outer.empty,.slice sa p.outer.steps.length sn,.slice K p.outer.pair.1.length kn,.slice X p.outer.pair.2.length xn,.bool p.inner.empty,.slice sb p.inner.steps.length sm,.slice K' p.inner.pair.1.length kn',.slice X' p.inner.pair.2.length xn']) hq 6
 have p7:=aA (cs:=[.int .i64 p.session,.int .i64 p.code,.int .i64 p.turn,.bool p.found,.slice V p.value.length v,.slice P p.pairs.length pn,.slice Q p.root.length qn,.bool p.outer.empty,.slice sa p.outer.steps.length sn,.slice K p.outer.pair.1.length kn,.slice X p.outer.pair.2.length xn,.bool p.inner.empty,.slice sb p.inner.steps.length sm,.slice K' p.inner.pair.1.length kn',.slice X' p.inner.pair.2.length xn']) hq 7
 have p8:=aA (cs:=[.int .i64 p.session,.int .i64 p.code,.int .i64 p.turn,.bool p.found,.slice V p.value.length v,.slice P p.pairs.length pn,.slice Q p.root.length qn,.bool p.outer.empty,.slice sa p.outer.steps.length sn,.slice K p.outer.pair.1.length kn,.slice X p.outer.pair.2.length xn,.bool p.inner.empty,.slice sb p.inner.steps.length sm,.slice K' p.inner.pair.1.length kn',.slice X' p.inner.pair.2.length xn']) hq 8
 have p9:=aA (cs:=[.int .i64 p.session,.int .i64 p.code,.int .i64 p.turn,.bool p.found,.slice V p.value.length v,.slice P p.pairs.length pn,.slice Q p.root.length qn,.bool p.outer.empty,.slice sa p.outer.steps.length sn,.slice K p.outer.pair.1.length kn,.slice X p.outer.pair.2.length xn,.bool p.inner.empty,.slice sb p.inner.steps.length sm,.slice K' p.inner.pair.1.length kn',.slice X' p.inner.pair.2.length xn']) hq 9
 have p10:=aA (cs:=[.int .i64 p.session,.int .i64 p.code,.int .i64 p.turn,.bool p.found,.slice V p.value.length v,.slice P p.pairs.length pn,.slice Q p.root.length qn,.bool p.outer.empty,.slice sa p.outer.steps.length sn,.slice K p.outer.pair.1.length kn,.slice X p.outer.pair.2.length xn,.bool p.inner.empty,.slice sb p.inner.steps.length sm,.slice K' p.inner.pair.1.length kn',.slice X' p.inner.pair.2.length xn']) hq 10
 have p11:=aA (cs:=[.int .i64 p.session,.int .i64 p.code,.int .i64 p.turn,.bool p.found,.slice V p.value.length v,.slice P p.pairs.length pn,.slice Q p.root.length qn,.bool p.outer.empty,.slice sa p.outer.steps.length sn,.slice K p.outer.pair.1.length kn,.slice X p.outer.pair.2.length xn,.bool p.inner.empty,.slice sb p.inner.steps.length sm,.slice K' p.inner.pair.1.length kn',.slice X' p.inner.pair.2.length xn']) hq 11
 have p12:=aA (cs:=[.int .i64 p.session,.int .i64 p.code,.int .i64 p.turn,.bool p.found,.slice V p.value.length v,.slice P p.pairs.length pn,.slice Q p.root.length qn,.bool p.outer.empty,.slice sa p.outer.steps.length sn,.slice K p.outer.pair.1.length kn,.slice X p.outer.pair.2.length xn,.bool p.inner.empty,.slice sb p.inner.steps.length sm,.slice K' p.inner.pair.1.length kn',.slice X' p.inner.pair.2.length xn']) hq 12
 have p13:=aA (cs:=[.int .i64 p.session,.int .i64 p.code,.int .i64 p.turn,.bool p.found,.slice V p.value.length v,.slice P p.pairs.length pn,.slice Q p.root.length qn,.bool p.outer.empty,.slice sa p.outer.steps.length sn,.slice K p.outer.pair.1.length kn,.slice X p.outer.pair.2.length xn,.bool p.inner.empty,.slice sb p.inner.steps.length sm,.slice K' p.inner.pair.1.length kn',.slice X' p.inner.pair.2.length xn']) hq 13
 have p14:=aA (cs:=[.int .i64 p.session,.int .i64 p.code,.int .i64 p.turn,.bool p.found,.slice V p.value.length v,.slice P p.pairs.length pn,.slice Q p.root.length qn,.bool p.outer.empty,.slice sa p.outer.steps.length sn,.slice K p.outer.pair.1.length kn,.slice X p.outer.pair.2.length xn,.bool p.inner.empty,.slice sb p.inner.steps.length sm,.slice K' p.inner.pair.1.length kn',.slice X' p.inner.pair.2.length xn']) hq 14
 simp only[List.getElem?_cons_zero,List.getElem?_cons_succ] at p0 p1 p2 p3 p4 p5 p6 p7 p8 p9 p10 p11 p12 p13 p14
 replace HbR:=zh (HbR.out.next hbq HbR.out.size)
 have hyW:Below y7.heap.size y7 WP:=by rw[hWWP];exact (Below.refl _ _).alloc zn _
 rw[← hWWP,← hgn]
 clear hWWP hgn hbq hq hyW Hbz w0 w1 w2 w3 w4 w5 w6 w7 w8 w9 w10 w11 w12 w13 w14
 have z1:p.outer.steps.length*40≤140737488355328:=by rw[Hpo.out];simp
 have z2:p.outer.pair.1.length≤big:=by rw[Hpo.out];simp
 have z3:p.outer.pair.2.length≤big:=by rw[Hpo.out];simp
 have z4:p.inner.steps.length*40≤140737488355328:=by rw[Hpi.out];simp
 have z5:p.inner.pair.1.length≤big:=by rw[Hpi.out];simp
 have z6:p.inner.pair.2.length≤big:=by rw[Hpi.out];simp
 go_upto_region 8 with (go_at_call 17;(with_reducible refine (dM9 _ ?hT A7 A5 B5 sa K X sb K' X' ns r.name r.key p.outer p.inner c7 a5 b5 sn kn xn sm kn' xn' ?i1 ?i2 ?i3 ?j1 ?j2 ?j3 z1 z2 z3 ?k1 ?k2 ?k3 z4 z5 z6 hnl').mono ?_);(case hT=>exact HT.out.below (HbX.out.next HbR.out HbX.out.size));(case i1=>exact S7.out);(case i2=>exact T1.out);(case i3=>exact T2.out);(case j1=>exact J1.out);(case j2=>exact J2.out);(case j3=>exact J3.out);(case k1=>exact J4.out);(case k2=>exact J5.out);(case k3=>exact J6.out);rw[HVer.out];rintro e9 y9 ⟨A9,c9,rfl,hs9,hb9⟩;have Hb9:=zh hb9;clear hs9 hb9)
 have hb9:=Hb9.out
 obtain⟨WV,hWWV⟩:∃ WV,WV=y9.alloc (.cells #[.bool false,.slice A9 0 c9] 50):=⟨_,rfl⟩
 obtain⟨vn,hvn⟩:∃ vn,vn=y9.heap.size:=⟨_,rfl⟩
 have hbq:=hb9.alloc hb9.size (.cells #[.bool false,.slice A9 0 c9] 50)
 rw[← hWWV] at hbq
 have hq:WV.heap[vn]?=some (.cells #[.bool false,.slice A9 0 c9] 50 (0,0)):=by rw[hWWV,hvn];exact aK _ _ _
 replace x1:=(hbq.cell (p:=⟨bx,1,none⟩) lX).trans x1
 replace x2:=(hbq.cell (p:=⟨bx,2,none⟩) lX).trans x2
 replace o4:=(hbq.cell (p:=⟨on,4,none⟩) lO).trans o4
 replace p0:=(hbq.cell (p:=⟨gn,0,none⟩) lG).trans p0
 replace p1:=(hbq.cell (p:=⟨gn,1,none⟩) lG).trans p1
 replace p2:=(hbq.cell (p:=⟨gn,2,none⟩) lG).trans p2
 replace p3:=(hbq.cell (p:=⟨gn,3,none⟩) lG).trans p3
 replace p4:=(hbq.cell (p:=⟨gn,4,none⟩) lG).trans p4
 replace p5:=(hbq.cell (p:=⟨gn,5,none⟩) lG).trans p5
 replace p6:=(hbq.cell (p:=⟨gn,6,none⟩) lG).trans p6
 replace p7:=(hbq.cell (p:=⟨gn,7,none⟩) lG).trans p7
 replace p8:=(hbq.cell (p:=⟨gn,8,none⟩) lG).trans p8
 replace p9:=(hbq.cell (p:=⟨gn,9,none⟩) lG).trans p9
 replace p10:=(hbq.cell (p:=⟨gn,10,none⟩) lG).trans p10
 replace p11:=(hbq.cell (p:=⟨gn,11,none⟩) lG).trans p11
 replace p12:=(hbq.cell (p:=⟨gn,12,none⟩) lG).trans p12
 replace p13:=(hbq.cell (p:=⟨gn,13,none⟩) lG).trans p13
 replace p14:=(hbq.cell (p:=⟨gn,14,none⟩) lG).trans p14
 replace lX:=Nat.lt_of_lt_of_le lX hbq.size
 replace lO:=Nat.lt_of_lt_of_le lO hbq.size
 replace hrlt:=Nat.lt_of_lt_of_le hrlt hbq.size
 replace lG:=Nat.lt_of_lt_of_le lG hbq.size
 replace T1:=zh (T1.out.bbelow hbq)
 replace T2:=zh (T2.out.bbelow hbq)
 replace VQ:=zh (VQ.out.bbelow hbq)
 replace J2:=zh (J2.out.bbelow hbq)
 replace J3:=zh (J3.out.bbelow hbq)
 replace J5:=zh (J5.out.bbelow hbq)
 replace J6:=zh (J6.out.bbelow hbq)
 replace S7:=zh (S7.out.bbelow hbq)
 replace J1:=zh (J1.out.below stR_stays hbq)
 replace J4:=zh (J4.out.below stR_stays hbq)
 have lV:=(Array.getElem?_eq_some_iff.1 hq).1
 have v0:=aA (cs:=[.bool false,.slice A9 0 c9]) hq 0
 have v1:=aA (cs:=[.bool false,.slice A9 0 c9]) hq 1
 simp only[List.getElem?_cons_zero,List.getElem?_cons_succ] at v0 v1
 replace HbR:=zh (HbR.out.next hbq HbR.out.size)
 have hyW:Below y9.heap.size y9 WV:=by rw[hWWV];exact (Below.refl _ _).alloc zn _
 rw[← hWWV,← hvn]
 clear hWWV hvn hbq hq hyW hb9 Hb9 HVer
 have e3:p.found=false:=Hpf.out
 have e7:p.outer.empty=true:=by rw[Hpo.out]
 have e11:p.inner.empty=true:=by rw[Hpi.out]
 rw[e3] at p3
 rw[e7] at p7
 rw[e11] at p11
 rw[Hpr.out] at VQ p6
 have h1:=bE2 (S7.out) 27 9 5 c7 Tryz.underlying27 Tryz.underlying5 Tryz.underlying9
 have h2:=bE2 (VQ.out) 27 9 5 qn Tryz.underlying27 Tryz.underlying5 Tryz.underlying9
 have hln:=Hln.out
 rw[hln] at p6 h1 h2 ⊢
 clear e3 e7 e11
 go_wp2
 go_ret
 exact⟨rfl,HbX.out.next HbR.out HbX.out.size⟩
theorem dP1 (w:World) (hT:bD w) (hH:bL w) {cl:List Value} {g:Gr} (hg:GrR All w cl g) :
  Calls Tryz.prog 5 #[.agg ⟨cl⟩] w (bQ w (.bool true)):=by
 obtain⟨rfl,_,_,h3,h4,_⟩:=hg
 exact dP0 w hT hH g h3 h4
end Go.Proofs.YtodopbnhkkkcbaaGreatDoor
