/- TopPrf: Walk: TopProofs. The conditions of each are in its words. -/
import Derived.Deep.CutRange
import Derived.Test.YtodopbnhkkkcbaaGreatDoorKTopV
import Derived.Test.YtodopbnhkkkcbaaGreatDoorKHidK
namespace Go.Proofs.YtodopbnhkkkcbaaGreatDoor
open Go.RowKit
set_option linter.unusedVariables false
set_option linter.unusedSimpArgs false
set_option maxRecDepth 100000
set_option maxHeartbeats 8000000
theorem dP2 {l:List Ac} (hl:∀ a ∈ l,aB6 a=0) (hn:l.length≤60):∃ (u:Bool) (tn pd:Int) (fo:List Tn) (rl:List Rp),dA3 l ⟨u,tn,pd,fo,rl⟩∧0≤tn :=
 ⟨_,_,_,_,_,dA4 hl AO rfl,Int.natCast_nonneg _⟩
theorem dP3 (w:World) (hT:bD w) (hH:bL w) (A:Option Addr) (l:List Gr) (c:Nat) (ha:Grs All w A l) (hl:l.length≤big) :
  Calls Tryz.prog 6 #[.slice A l.length c] w (bQ w (.bool true)):=by
 have HT:=zh hT
 have HH:=zh hH
 have Ha:=zh ha
 clear hT hH ha
 go_enter Tryz.func6,Tryz.ntmps6
 go_wp2_with (go_at_call 10;(with_reducible refine (cX5 _ ?hT A l c 60 60 rfl AO ?ha hl).mono ?_);(case hT=>exact HH.out);(case ha=>exact Ha.out);rintro e1 w1 ⟨xs,v,rfl,hxl,hxs,hown,hb1⟩;obtain⟨VA,vc,rfl,hvc,hacs⟩:=hown.readc acR_stays;have Hxs:=zh hxs;have Hown1:=zh hown;have HX1:=zh hacs;have Hb1:=zh hb1;clear hxs hown hacs hb1)
 have HXL:=zh (show Acs (fun b=>b<w1.heap.size) w1 VA xs from HX1.out.less acR_stays fun b hb _=>hb)
 clear HX1 Hown1 Ha
 go_loopw [4] (fun i wr=>∃ k:Nat,k≤xs.length∧i=.int .i64 k∧aC (fun b=>b<w1.heap.size) w1 wr∧Below w.heap.size w wr) (fun i _=>xs.length - (intOf i).toNat)
 case atStart=>exact⟨0,AO,rfl,aC.refl _ _,Hb1.out⟩
 case round =>
  obtain⟨k,hk,rfl,hsk,hbr⟩:=hrel
  have Hsk:=zh hsk
  have Hbr:=zh hbr
  clear hsk hbr
  by_cases hlt:k<xs.length
  ·obtain⟨b,off,D,d,rfl,hab,a0,_,_,a3,hxd,hxD⟩:=cO9 (HXL.out.same acR_stays Hsk.out) hlt
   obtain⟨r,ed,hde⟩:∃ r ed,aM2 xs[k].data=(r,ed):=⟨_,_,rfl⟩
   have hprf:=prf_ran Hxs.out AO hlt (r:=r)
   generalize xs[k]=x at *
   have HD:=zh hxD.bz
   have i0:(0:Int)≤(k:Int):=by omega
   have i1:(k:Int)<(xs.length:Int):=by omega
   have i2:(k:Int)+1≤(xs.length:Int):=by omega
   have i3:(k:Int)+1≤(vc:Int):=by omega
   have i4:(k:Int)≤(vc:Int):=by omega
   have i5:(0:Int)≤(k:Int)+1:=by omega
   clear hxD
   by_cases hk1:x.kind=1
   ·rw[hk1] at a0
    have Hde:=zh hde
    by_cases he:ed=0
    ·by_cases h8:r.kind=8
     ·subst he
      obtain⟨u,tn,pd,fo,rl,p,gf,gv,rt,HRa,HRb,hP,hrl⟩:=hprf hk1 hde h8
      have HP:=zh hP
      clear hprf hde hP
      have e8:(r.kind != 8)=false:=by simp[h8]
      clear h8
      go_upto_region 8 with (go_at_call 19;(with_reducible refine (aE7 _ ?hT D x.data d ?hd hxd).mono ?_);(case hT=>exact HH.out.below Hbr.out);(case hd=>exact HD.out);rw[Hde.out];rintro e5 y5 ⟨A5,a5,B5,b5,C5,c5,D5,d5,rfl,s1,s2,s3,s4,hb5⟩;have S1:=zh s1.bz;have S2:=zh s2.bz;have Hb5:=zh hb5;clear s1 s2 s3 s4 hb5)
      have HbR:=zh (Below.refl wr.heap.size wr)
      have Hb5e:=Hb5.out
      obtain⟨WD,hWWD⟩:∃ WD,WD=y5.alloc (.cells #[.int .i64 r.kind,.slice A5 r.name.length a5,.slice B5 r.key.length b5,.slice C5 r.last.length c5,.slice D5 r.value.length d5] 29):=⟨_,rfl⟩
      obtain⟨bx,hbx⟩:∃ bx,bx=y5.heap.size:=⟨_,rfl⟩
      have hbq:=Hb5e.alloc Hb5e.size (.cells #[.int .i64 r.kind,.slice A5 r.name.length a5,.slice B5 r.key.length b5,.slice C5 r.last.length c5,.slice D5 r.value.length d5] 29)
      rw[← hWWD] at hbq
      have hq:WD.heap[bx]?=some (.cells #[.int .i64 r.kind,.slice A5 r.name.length a5,.slice B5 r.key.length b5,.slice C5 r.last.length c5,.slice D5 r.value.length d5] 29 (0,0)):=by rw[hWWD,hbx];exact aK _ _ _
      have lX:=(Array.getElem?_eq_some_iff.1 hq).1
      have x0:=aA (cs:=[.int .i64 r.kind,.slice A5 r.name.length a5,.slice B5 r.key.length b5,.slice C5 r.last.length c5,.slice D5 r.value.length d5]) hq 0
      have x1:=aA (cs:=[.int .i64 r.kind,.slice A5 r.name.length a5,.slice B5 r.key.length b5,.slice C5 r.last.length c5,.slice D5 r.value.length d5]) hq 1
      have x2:=aA (cs:=[.int .i64 r.kind,.slice A5 r.name.length a5,.slice B5 r.key.length b5,.slice C5 r.last.length c5,.slice D5 r.value.length d5]) hq 2
      simp only[List.getElem?_cons_zero,List.getElem?_cons_succ] at x0 x1 x2
      replace HbR:=zh (HbR.out.next hbq HbR.out.size)
      have hyW:Below y5.heap.size y5 WD:=by rw[hWWD];exact (Below.refl _ _).alloc zn _
      rw[← hWWD,← hbx]
      replace S1:=zh (S1.out.bbelow hyW)
      replace S2:=zh (S2.out.bbelow hyW)
      clear hWWD hbx hbq hq hyW 
      have HXD:=zh (((HXL.out.same acR_stays Hsk.out).below acR_stays HbR.out).z acR_stays)
      clear Hb5e Hb5 Hde HD a0 a3
      go_upto_region 9 with (go_at_call 12;(with_reducible refine (Hid.out HRa _ (some ⟨b,off,none⟩) k k ZF6 ?hT ?hH ?ha).mono ?_);(case hT=>exact HT.out.below (Hbr.out.next HbR.out Hbr.out.size));(case hH=>exact HH.out.below (Hbr.out.next HbR.out Hbr.out.size));(case ha=>exact (cZ4 HXD.out _));rintro e8 u8 ⟨F8,f8,R8,r8,W8,b8,hi8,rfl,hW8,hbb8,hhi8,hB8,hw8,hu8,hv8⟩;have HV8:=zh hv8;have HB8:=zh hB8;have Hw8:=zh hw8;have HW8:=zh hW8;have Hbb8:=zh hbb8;have Hhi8:=zh hhi8;clear hB8 hw8 hu8 hv8 hW8 hbb8 hhi8)
      rw[HW8.out,Hbb8.out]
      have hb8:=Hw8.out
      replace x0:=(hb8.cell (p:=⟨bx,0,none⟩) lX).trans x0
      replace x1:=(hb8.cell (p:=⟨bx,1,none⟩) lX).trans x1
      replace x2:=(hb8.cell (p:=⟨bx,2,none⟩) lX).trans x2
      replace lX:=Nat.lt_of_lt_of_le lX hb8.size
      replace S1:=zh (S1.out.bbelow hb8)
      replace S2:=zh (S2.out.bbelow hb8)
      replace HbR:=zh (HbR.out.next hb8 HbR.out.size)
      replace HXD:=zh (HXD.out.below acR_stays hb8)
      clear hb8 HW8 Hbb8 Hhi8 HV8 Hw8
      go_upto_region 10 with (go_at_call 12;(with_reducible refine (Hid.out HRb _ (some ⟨b,off,none⟩) (k+1) (k+1) ZF6 ?hT ?hH ?ha).mono ?_);(case hT=>exact HT.out.below (Hbr.out.next HbR.out Hbr.out.size));(case hH=>exact HH.out.below (Hbr.out.next HbR.out Hbr.out.size));(case ha=>exact (cZ4 HXD.out _));rintro e9 u9 ⟨F9,f9,R9,r9,W9,b9,hi9,rfl,hW9,hbb9,hhi9,hB9,hw9,hu9,hv9⟩;have HV9:=zh hv9;have HB9:=zh hB9;have Hw9:=zh hw9;have HW9:=zh hW9;have Hbb9:=zh hbb9;have Hhi9:=zh hhi9;clear hB9 hw9 hu9 hv9 hW9 hbb9 hhi9)
      have e9:=HW9.out
      rw[List.length_append,List.length_singleton] at e9
      rw[e9,Hbb9.out]
      clear e9
      have hb9:=Hw9.out
      replace x0:=(hb9.cell (p:=⟨bx,0,none⟩) lX).trans x0
      replace x1:=(hb9.cell (p:=⟨bx,1,none⟩) lX).trans x1
      replace x2:=(hb9.cell (p:=⟨bx,2,none⟩) lX).trans x2
      replace lX:=Nat.lt_of_lt_of_le lX hb9.size
      replace S1:=zh (S1.out.bbelow hb9)
      replace S2:=zh (S2.out.bbelow hb9)
      replace HbR:=zh (HbR.out.next hb9 HbR.out.size)
      have hA:=HB8.out.below hb9
      obtain⟨a0,a1,a2,a3,a4⟩:=hA.cells
      obtain⟨b0,b1,b2,b3,b4⟩:=HB9.out.cells
      dsimp only at a0 a1 a2 a3 a4 b0 b1 b2 b3 b4
      have lA:=hA.lt
      have FA:=zh (hA.fo.z tenR_stays)
      dsimp only at FA
      obtain⟨rb,ro,V,v,P,pn,Q,qn,sa,sn,K,kn,X,xn,sb,sm,K',kn',X',xn',hR9,hrlt,hcs,hv1,hv2,hv3,⟨hv4,hv5,hv6⟩,hv7,hv8,hv9⟩:=rep_vals (HV9.out.z rpR_stays) (show rl.length<(rl++[p]).length by simp)
      rw[show (rl++[p])[rl.length]'ZH2=p by simp] at hcs hv1 hv3 hv4 hv5 hv6 hv7 hv8 hv9
      subst hR9
      rw[List.length_append,List.length_singleton] at b4
      have w0:=hcs 0 AO
      have w1:=hcs 1 AO
      have w2:=hcs 2 AO
      have w3:=hcs 3 AO
      have w4:=hcs 4 AO
      have w5:=hcs 5 AO
      have w6:=hcs 6 AO
      have w7:=hcs 7 AO
      have w8:=hcs 8 AO
      have w9:=hcs 9 AO
      have w10:=hcs 10 AO
      have w11:=hcs 11 AO
      have w12:=hcs 12 AO
      have w13:=hcs 13 AO
      have w14:=hcs 14 AO
      simp only[dE6,Nat.add_zero,List.getElem?_cons_zero,List.getElem?_cons_succ] at w0 w1 w2 w3 w4 w5 w6 w7 w8 w9 w10 w11 w12 w13 w14
      have VV:=zh hv1
      have VQ:=zh hv3
      have J2:=zh hv5
      have J3:=zh hv6
      have J5:=zh hv8
      have J6:=zh hv9
      have J1:=zh hv4
      have J4:=zh hv7
      have k1:(((rl.length+1:Nat):Int) != (rl.length:Int)+1)=false:=by simp
      have k1':((rl.length:Int)+1 != (rl.length:Int)+1)=false:=by simp
      have k2:(rl.length:Int)<((rl.length+1:Nat):Int):=by omega
      have k2':(rl.length:Int)<(rl.length:Int)+1:=by omega
      have k3:(0:Int)≤(rl.length:Int):=by omega
      have k4:(rl.length:Int)≤60:=by omega
      clear hb9 HW9 Hbb9 Hhi9 HV9 Hw9 hA HB8 HB9 hcs hv1 hv2 hv3 hv4 hv5 hv6 hv7 hv8 hv9 HRa HRb HXD a2 b0 b1 b2 b3 hrl hrlt
      go_upto_region 13 with fail
      have Hbz:=Below.refl W9.heap.size W9
      obtain⟨WP,hWWP⟩:∃ WP,WP=W9.alloc (.cells #[.int .i64 p.session,.int .i64 p.code,.int .i64 p.turn,.bool p.found,.slice V p.value.length v,.slice P p.pairs.length pn,.slice Q p.root.length qn,.bool p.outer.empty,.slice sa p.outer.steps.length sn,.slice K p.outer.pair.1.length kn,.slice X p.outer.pair.2.length xn,.bool p.inner.empty,.slice sb p.inner.steps.length sm,.slice K' p.inner.pair.1.length kn',.slice X' p.inner.pair.2.length xn'] 48):=⟨_,rfl⟩
      obtain⟨gn,hgn⟩:∃ gn,gn=W9.heap.size:=⟨_,rfl⟩
      have hbq:=Hbz.alloc Hbz.size (.cells #[.int .i64 p.session,.int .i64 p.code,.int .i64 p.turn,.bool p.found,.slice V p.value.length v,.slice P p.pairs.length pn,.slice Q p.root.length qn,.bool p.outer.empty,.slice sa p.outer.steps.length sn,.slice K p.outer.pair.1.length kn,.slice X p.outer.pair.2.length xn,.bool p.inner.empty,.slice sb p.inner.steps.length sm,.slice K' p.inner.pair.1.length kn',.slice X' p.inner.pair.2.length xn'] 48)
      rw[← hWWP] at hbq
      have hq:WP.heap[gn]?=some (.cells #[.int .i64 p.session,.int .i64 p.code,.int .i64 p.turn,.bool p.found,.slice V p.value.length v,.slice P p.pairs.length pn,.slice Q p.root.length qn,.bool p.outer.empty,.slice sa p.outer.steps.length sn,.slice K p.outer.pair.1.length kn,.slice X p.outer.pair.2.length xn,.bool p.inner.empty,.slice sb p.inner.steps.length sm,.slice K' p.inner.pair.1.length kn',.slice X' p.inner.pair.2.length xn'] 48 (0,0)):=by rw[hWWP,hgn];exact aK _ _ _
      replace x0:=(hbq.cell (p:=⟨bx,0,none⟩) lX).trans x0
      replace x1:=(hbq.cell (p:=⟨bx,1,none⟩) lX).trans x1
      replace x2:=(hbq.cell (p:=⟨bx,2,none⟩) lX).trans x2
      replace a0:=(hbq.cell (p:=⟨b8,0,none⟩) lA).trans a0
      replace a1:=(hbq.cell (p:=⟨b8,1,none⟩) lA).trans a1
      replace a3:=(hbq.cell (p:=⟨b8,3,none⟩) lA).trans a3
      replace lX:=Nat.lt_of_lt_of_le lX hbq.size
      replace lA:=Nat.lt_of_lt_of_le lA hbq.size
      replace S1:=zh (S1.out.bbelow hbq)
      replace S2:=zh (S2.out.bbelow hbq)
      replace VV:=zh (VV.out.bbelow hbq)
      replace VQ:=zh (VQ.out.bbelow hbq)
      replace J2:=zh (J2.out.bbelow hbq)
      replace J3:=zh (J3.out.bbelow hbq)
      replace J5:=zh (J5.out.bbelow hbq)
      replace J6:=zh (J6.out.bbelow hbq)
      replace FA:=zh (FA.out.below tenR_stays hbq)
      replace J1:=zh (J1.out.below stR_stays hbq)
      replace J4:=zh (J4.out.below stR_stays hbq)
      have lG:=(Array.getElem?_eq_some_iff.1 hq).1
      have p0:=aA (cs:=[.int .i64 p.session,.int .i64 p.code,.int .i64 p.turn,.bool p.found,.slice V p.value.length v,.slice P p.pairs.length pn,.slice Q p.root.length qn,.bool p.outer.empty,.slice sa p.outer.steps.length sn,.slice K p.outer.pair.1.length kn,.slice X p.outer.pair.2.length xn,.bool p.inner.empty,.slice sb p.inner.steps.length sm,.slice K' p.inner.pair.1.length kn',.slice X' p.inner.pair.2.length xn']) hq 0
      have p1:=aA (cs:=[.int .i64 p.session,.int .i64 p.code,.int .i64 p.turn,.bool p.found,.slice V p.value.length v,.slice P p.pairs.length pn,.slice Q p.root.length qn,.bool p.outer.empty,.slice sa p.outer.steps.length sn,.slice K p.outer.pair.1.length kn,.slice X p.outer.pair.2.length xn,.bool p.inner.empty,.slice sb p.inner.steps.length sm,.slice K' p.inner.pair.1.length kn',.slice X' p.inner.pair.2.length xn']) hq 1
      have p2:=aA (cs:=[.int .i64 p.session,.int .i64 p.code,.int .i64 p.turn,.bool p.found,.slice V p.value.length v,.slice P p.pairs.length pn,.slice Q p.root.length qn,.bool p.outer.empty,.slice sa p.outer.steps.length sn,.slice K p.outer.pair.1.length kn,.slice X p.outer.pair.2.length xn,.bool p.inner.empty,.slice sb p.inner.steps.length sm,.slice K' p.inner.pair.1.length kn',.slice X' p.inner.pair.2.length xn']) hq 2
      have p3:=aA (cs:=[.int .i64 p.session,.int .i64 p.code,.int .i64 p.turn,.bool p.found,.slice V p.value.length v,.slice P p.pairs.length pn,.slice Q p.root.length qn,.bool p.outer.empty,.slice sa p.outer.steps.length sn,.slice K p.outer.pair.1.length kn,.slice X p.outer.pair.2.length xn,.bool p.inner.empty,.slice sb p.inner.steps.length sm,.slice K' p.inner.pair.1.length kn',.slice X' p.inner.pair.2.length xn']) hq 3
      have p4:=aA (cs:=[.int .i64 p.session,.int .i64 p.code,.int .i64 p.turn,.bool p.found,.slice V p.value.length v,.slice P p.pairs.length pn,.slice Q p.root.length qn,.bool p.outer.empty,.slice sa p.outer.steps.length sn,.slice K p.outer.pair.1.length kn,.slice X p.outer.pair.2.length xn,.bool p.inner.empty,.slice sb p.inner.steps.length sm,.slice K' p.inner.pair.1.length kn',.slice X' p.inner.pair.2.length xn']) hq 4
      have p5:=aA (cs:=[.int .i64 p.session,.int .i64 p.code,.int .i64 p.turn,.bool p.found,.slice V p.value.length v,.slice P p.pairs.length pn,.slice Q p.root.length qn,.bool p.outer.empty,.slice sa p.outer.steps.length sn,.slice K p.outer.pair.1.length kn,.slice X p.outer.pair.2.length xn,.bool p.inner.empty,.slice sb p.inner.steps.length sm,.slice K' p.inner.pair.1.length kn',.slice X' p.inner.pair.2.length xn']) hq 5
      have p6:=aA (cs:=[.int .i64 p.session,.int .i64 p.code,.int .i64 p.turn,.bool p.found,.slice V p.value.length v,.slice P p.pairs.length pn,.slice Q p.root.length qn,.bool p.outer.empty,.slice sa p.outer.steps.length sn,.slice K p.outer.pair.1.length kn,.slice X p.outer.pair.2.length xn,.bool p.inner.empty,.slice sb p.inner.steps.length sm,.slice K' p.inner.pair.1.length kn',.slice X' p.inner.pair.2.length xn']) hq 6
      have p7:=aA (cs:=[.int .i64 p.session,.int .i64 p.code,.int .i64 p.turn,.bool p.found,.slice V p.value.length v,.slice P p.pairs.length pn,.slice Q p.root.length qn,.bool p.outer.empty,.slice sa p.outer.steps.length sn,.slice K p.outer.pair.1.length kn,.slice X p.outer.pair.2.length xn,.bool p.inner.empty,.slice sb p.inner.steps.length sm,.slice K' p.inner.pair.1.length kn',.slice X' p.inner.pair.2.length xn']) hq 7
      have p8:=aA (cs:=[.int .i64 p.session,.int .i64 p.code,.int .i64 p.turn,.bool p.found,.slice V p.value.length v,.slice P p.pairs.length pn,.slice Q p.root.length qn,.bool p.outer.empty,.slice sa p.outer.steps.length sn,.slice K p.outer.pair.1.length kn,.slice X p.outer.pair.2.length xn,.bool p.inner.empty,.slice sb p.inner.steps.length sm,.slice K' p.inner.pair.1.length kn',.slice X' p.inner.pair.2.length xn']) hq 8
      have p9:=aA (cs:=[.int .i64 p.session,.int .i64 p.code,.int .i64 p.turn,.bool p.found,.slice V p.value.length v,.slice P p.pairs.length pn,.slice Q p.root.length qn,.bool p.outer.empty,.slice sa p.outer.steps.length sn,.slice K p.outer.pair.1.length kn,.slice X p.outer.pair.2.length xn,.bool p.inner.empty,.slice sb p.inner.steps.length sm,.slice K' p.inner.pair.1.length kn',.slice X' p.inner.pair.2.length xn']) hq 9
      have p10:=aA (cs:=[.int .i64 p.session,.int .i64 p.code,.int .i64 p.turn,.bool p.found,.slice V p.value.length v,.slice P p.pairs.length pn,.slice Q p.root.length qn,.bool p.outer.empty,.slice sa p.outer.steps.length sn,.slice K p.outer.pair.1.length kn,.slice X p.outer.pair.2.length xn,.bool p.inner.empty,.slice sb p.inner.steps.length sm,.slice K' p.inner.pair.1.length kn',.slice X' p.inner.pair.2.length xn']) hq 10
      have p11:=aA (cs:=[.int .i64 p.session,.int .i64 p.code,.int .i64 p.turn,.bool p.found,.slice V p.value.length v,.slice P p.pairs.length pn,.slice Q p.root.length qn,.bool p.outer.empty,.slice sa p.outer.steps.length sn,.slice K p.outer.pair.1.length kn,.slice X p.outer.pair.2.length xn,.bool p.inner.empty,.slice sb p.inner.steps.length sm,.slice K' p.inner.pair.1.length kn',.slice X' p.inner.pair.2.length xn']) hq 11
      have p12:=aA (cs:=[.int .i64 p.session,.int .i64 p.code,.int .i64 p.turn,.bool p.found,.slice V p.value.length v,.slice P p.pairs.length pn,.slice Q p.root.length qn,.bool p.outer.empty,.slice sa p.outer.steps.length sn,.slice K p.outer.pair.1.length kn,.slice X p.outer.pair.2.length xn,.bool p.inner.empty,.slice sb p.inner.steps.length sm,.slice K' p.inner.pair.1.length kn',.slice X' p.inner.pair.2.length xn']) hq 12
      have p13:=aA (cs:=[.int .i64 p.session,.int .i64 p.code,.int .i64 p.turn,.bool p.found,.slice V p.value.length v,.slice P p.pairs.length pn,.slice Q p.root.length qn,.bool p.outer.empty,.slice sa p.outer.steps.length sn,.slice K p.outer.pair.1.length kn,.slice X p.outer.pair.2.length xn,.bool p.inner.empty,.slice sb p.inner.steps.length sm,.slice K' p.inner.pair.1.length kn',.slice X' p.inner.pair.2.length xn']) hq 13
      have p14:=aA (cs:=[.int .i64 p.session,.int .i64 p.code,.int .i64 p.turn,.bool p.found,.slice V p.value.length v,.slice P p.pairs.length pn,.slice Q p.root.length qn,.bool p.outer.empty,.slice sa p.outer.steps.length sn,.slice K p.outer.pair.1.length kn,.slice X p.outer.pair.2.length xn,.bool p.inner.empty,.slice sb p.inner.steps.length sm,.slice K' p.inner.pair.1.length kn',.slice X' p.inner.pair.2.length xn']) hq 14
      simp only[List.getElem?_cons_zero,List.getElem?_cons_succ] at p0 p1 p2 p3 p4 p5 p6 p7 p8 p9 p10 p11 p12 p13 p14
      replace HbR:=zh (HbR.out.next hbq HbR.out.size)
      have hyW:Below W9.heap.size W9 WP:=by rw[hWWP];exact (Below.refl _ _).alloc zn _
      rw[← hWWP,← hgn]
      clear hWWP hgn hbq hq hyW Hbz
      clear w0 w1 w2 w3 w4 w5 w6 w7 w8 w9 w10 w11 w12 w13 w14 a4 b4 k1 k1' k2 k2' k3
      rcases HP.out.told with ⟨hu,hc⟩|⟨hu,hf,hval,ht,hr,hver,⟨z1,z2,z3⟩,⟨z4,z5,z6⟩⟩
      ·subst hu
       rw[hc] at p1
       go_wp2
       go_roundw
       case rel=>exact⟨k+1,AO,by go_num,Hsk.out.trans (aC.of_below HbR.out),Hbr.out.next HbR.out Hbr.out.size⟩
       case measure=>simp[intOf];omega
      ·subst hu
       have z7:r.name.length≤big:=by have:=HP.out.nl;unfold big;omega
       have HVer:=zh (hr.symm ▸ hver)
       have HRoot:=zh HP.out.root
       have HGet:=zh HP.out.get
       rw[hf] at p3
       rw[ht] at p2
       have Hval:=zh hval
       have Hr:=zh hr
       clear hf hval ht hr hver
       clear x0 p0 p1 p5
       go_upto_region 17 with (go_at_call 18;(with_reducible refine (bU1 _ ?hT F8 fo f8 ?ha).mono ?_);(case hT=>exact HT.out.below (Hbr.out.next HbR.out Hbr.out.size));(case ha=>exact FA.out);rw[HRoot.out];rintro e7 y7 ⟨A7,c7,rfl,hs7,hb7⟩;have S7:=zh hs7.bz;have Hb7:=zh hb7;clear hs7 hb7)
       have hb7:=Hb7.out
       replace x1:=(hb7.cell (p:=⟨bx,1,none⟩) lX).trans x1
       replace x2:=(hb7.cell (p:=⟨bx,2,none⟩) lX).trans x2
       replace a0:=(hb7.cell (p:=⟨b8,0,none⟩) lA).trans a0
       replace a1:=(hb7.cell (p:=⟨b8,1,none⟩) lA).trans a1
       replace a3:=(hb7.cell (p:=⟨b8,3,none⟩) lA).trans a3
       replace p2:=(hb7.cell (p:=⟨gn,2,none⟩) lG).trans p2
       replace p3:=(hb7.cell (p:=⟨gn,3,none⟩) lG).trans p3
       replace p4:=(hb7.cell (p:=⟨gn,4,none⟩) lG).trans p4
       replace p6:=(hb7.cell (p:=⟨gn,6,none⟩) lG).trans p6
       replace p7:=(hb7.cell (p:=⟨gn,7,none⟩) lG).trans p7
       replace p8:=(hb7.cell (p:=⟨gn,8,none⟩) lG).trans p8
       replace p9:=(hb7.cell (p:=⟨gn,9,none⟩) lG).trans p9
       replace p10:=(hb7.cell (p:=⟨gn,10,none⟩) lG).trans p10
       replace p11:=(hb7.cell (p:=⟨gn,11,none⟩) lG).trans p11
       replace p12:=(hb7.cell (p:=⟨gn,12,none⟩) lG).trans p12
       replace p13:=(hb7.cell (p:=⟨gn,13,none⟩) lG).trans p13
       replace p14:=(hb7.cell (p:=⟨gn,14,none⟩) lG).trans p14
       replace lX:=Nat.lt_of_lt_of_le lX hb7.size
       replace lA:=Nat.lt_of_lt_of_le lA hb7.size
       replace lG:=Nat.lt_of_lt_of_le lG hb7.size
       replace S1:=zh (S1.out.bbelow hb7)
       replace S2:=zh (S2.out.bbelow hb7)
       replace VV:=zh (VV.out.bbelow hb7)
       replace VQ:=zh (VQ.out.bbelow hb7)
       replace J2:=zh (J2.out.bbelow hb7)
       replace J3:=zh (J3.out.bbelow hb7)
       replace J5:=zh (J5.out.bbelow hb7)
       replace J6:=zh (J6.out.bbelow hb7)
       replace FA:=zh (FA.out.below tenR_stays hb7)
       replace J1:=zh (J1.out.below stR_stays hb7)
       replace J4:=zh (J4.out.below stR_stays hb7)
       replace HbR:=zh (HbR.out.next hb7 HbR.out.size)
       clear hb7 Hb7 HRoot
       go_upto_region 18 with (go_at_call 17;(with_reducible refine (dM9 _ ?hT Q A5 B5 sa K X sb K' X' p.root r.name r.key p.outer p.inner qn a5 b5 sn kn xn sm kn' xn' ?i1 ?i2 ?i3 ?j1 ?j2 ?j3 z1 z2 z3 ?k1 ?k2 ?k3 z4 z5 z6 z7).mono ?_);(case hT=>exact HT.out.below (Hbr.out.next HbR.out Hbr.out.size));(case i1=>exact VQ.out);(case i2=>exact S1.out);(case i3=>exact S2.out);(case j1=>exact J1.out);(case j2=>exact J2.out);(case j3=>exact J3.out);(case k1=>exact J4.out);(case k2=>exact J5.out);(case k3=>exact J6.out);rw[HVer.out];rintro e9 y9 ⟨A9,c9,rfl,hs9,hb9⟩;have S9:=zh hs9.bz;have Hb9:=zh hb9;clear hs9 hb9)
       have hb9:=Hb9.out
       clear a0 p7 p8 p9 p10 p11 p12 p13 p14 J2 J3 J5 J6 J1 J4
       obtain⟨WV,hWWV⟩:∃ WV,WV=y9.alloc (.cells #[.bool gf,.slice A9 gv.length c9] 50):=⟨_,rfl⟩
       obtain⟨vn,hvn⟩:∃ vn,vn=y9.heap.size:=⟨_,rfl⟩
       have hbq:=hb9.alloc hb9.size (.cells #[.bool gf,.slice A9 gv.length c9] 50)
       rw[← hWWV] at hbq
       have hq:WV.heap[vn]?=some (.cells #[.bool gf,.slice A9 gv.length c9] 50 (0,0)):=by rw[hWWV,hvn];exact aK _ _ _
       replace x1:=(hbq.cell (p:=⟨bx,1,none⟩) lX).trans x1
       replace x2:=(hbq.cell (p:=⟨bx,2,none⟩) lX).trans x2
       replace a1:=(hbq.cell (p:=⟨b8,1,none⟩) lA).trans a1
       replace a3:=(hbq.cell (p:=⟨b8,3,none⟩) lA).trans a3
       replace p2:=(hbq.cell (p:=⟨gn,2,none⟩) lG).trans p2
       replace p3:=(hbq.cell (p:=⟨gn,3,none⟩) lG).trans p3
       replace p4:=(hbq.cell (p:=⟨gn,4,none⟩) lG).trans p4
       replace p6:=(hbq.cell (p:=⟨gn,6,none⟩) lG).trans p6
       replace lX:=Nat.lt_of_lt_of_le lX hbq.size
       replace lA:=Nat.lt_of_lt_of_le lA hbq.size
       replace lG:=Nat.lt_of_lt_of_le lG hbq.size
       replace S1:=zh (S1.out.bbelow hbq)
       replace S2:=zh (S2.out.bbelow hbq)
       replace VV:=zh (VV.out.bbelow hbq)
       replace VQ:=zh (VQ.out.bbelow hbq)
       replace S7:=zh (S7.out.bbelow hbq)
       replace FA:=zh (FA.out.below tenR_stays hbq)
       have lV:=(Array.getElem?_eq_some_iff.1 hq).1
       have v0:=aA (cs:=[.bool gf,.slice A9 gv.length c9]) hq 0
       have v1:=aA (cs:=[.bool gf,.slice A9 gv.length c9]) hq 1
       simp only[List.getElem?_cons_zero,List.getElem?_cons_succ] at v0 v1
       replace HbR:=zh (HbR.out.next hbq HbR.out.size)
       have hyW:Below y9.heap.size y9 WV:=by rw[hWWV];exact (Below.refl _ _).alloc zn _
       rw[← hWWV,← hvn]
       replace S9:=zh (S9.out.bbelow hyW)
       clear hWWV hvn hbq hq hyW hb9 Hb9 HVer
       go_upto_region 19 with (go_at_call 14;(with_reducible refine (aW2 _ F8 fo f8 A5 r.name a5 B5 r.key b5 ?h1 ?h2 ?h3).mono ?_);(case h1=>exact FA.out);(case h2=>exact S1.out);(case h3=>exact S2.out);rw[HGet.out];rintro e10 y10 ⟨A10,c10,rfl,hs10,hb10⟩;have S10:=zh hs10.bz;have Hb10:=zh hb10;clear hs10 hb10)
       have hb10:=Hb10.out
       clear x1 x2 a3 S1 S2 FA
       obtain⟨WG,hWWG⟩:∃ WG,WG=y10.alloc (.cells #[.bool gf,.slice A10 gv.length c10] 50):=⟨_,rfl⟩
       obtain⟨tn1,htn1⟩:∃ tn1,tn1=y10.heap.size:=⟨_,rfl⟩
       have hbq:=hb10.alloc hb10.size (.cells #[.bool gf,.slice A10 gv.length c10] 50)
       rw[← hWWG] at hbq
       have hq:WG.heap[tn1]?=some (.cells #[.bool gf,.slice A10 gv.length c10] 50 (0,0)):=by rw[hWWG,htn1];exact aK _ _ _
       replace a1:=(hbq.cell (p:=⟨b8,1,none⟩) lA).trans a1
       replace p2:=(hbq.cell (p:=⟨gn,2,none⟩) lG).trans p2
       replace p3:=(hbq.cell (p:=⟨gn,3,none⟩) lG).trans p3
       replace p4:=(hbq.cell (p:=⟨gn,4,none⟩) lG).trans p4
       replace p6:=(hbq.cell (p:=⟨gn,6,none⟩) lG).trans p6
       replace v0:=(hbq.cell (p:=⟨vn,0,none⟩) lV).trans v0
       replace v1:=(hbq.cell (p:=⟨vn,1,none⟩) lV).trans v1
       replace lX:=Nat.lt_of_lt_of_le lX hbq.size
       replace lA:=Nat.lt_of_lt_of_le lA hbq.size
       replace lG:=Nat.lt_of_lt_of_le lG hbq.size
       replace lV:=Nat.lt_of_lt_of_le lV hbq.size
       replace VV:=zh (VV.out.bbelow hbq)
       replace VQ:=zh (VQ.out.bbelow hbq)
       replace S7:=zh (S7.out.bbelow hbq)
       replace S9:=zh (S9.out.bbelow hbq)
       have lT:=(Array.getElem?_eq_some_iff.1 hq).1
       have t0:=aA (cs:=[.bool gf,.slice A10 gv.length c10]) hq 0
       have t1:=aA (cs:=[.bool gf,.slice A10 gv.length c10]) hq 1
       simp only[List.getElem?_cons_zero,List.getElem?_cons_succ] at t0 t1
       replace HbR:=zh (HbR.out.next hbq HbR.out.size)
       have hyW:Below y10.heap.size y10 WG:=by rw[hWWG];exact (Below.refl _ _).alloc zn _
       rw[← hWWG,← htn1]
       replace S10:=zh (S10.out.bbelow hyW)
       clear hWWG htn1 hbq hq hyW hb10 Hb10 HGet
       rw[Hval.out] at VV p4
       rw[Hr.out] at VQ p6
       have h1:=bE2 (S7.out) 27 9 5 c7 Tryz.underlying27 Tryz.underlying5 Tryz.underlying9
       have h2:=bE2 (VQ.out) 27 9 5 qn Tryz.underlying27 Tryz.underlying5 Tryz.underlying9
       have h3:=bE2 (S9.out) 27 9 5 c9 Tryz.underlying27 Tryz.underlying5 Tryz.underlying9
       have h4:=bE2 (S10.out) 27 9 5 c10 Tryz.underlying27 Tryz.underlying5 Tryz.underlying9
       have h5:=bE2 (VV.out) 27 9 5 v Tryz.underlying27 Tryz.underlying5 Tryz.underlying9
       go_wp2
       go_roundw
       case rel=>exact⟨k+1,AO,by go_num,Hsk.out.trans (aC.of_below HbR.out),Hbr.out.next HbR.out Hbr.out.size⟩
       case measure=>simp[intOf];omega
     ·subst he
      have e8:(r.kind != 8)=true:=by simpa using h8
      clear hprf hde
      go_wp2_with (go_at_call 19;(with_reducible refine (aE7 _ ?hT D x.data d ?hd hxd).mono ?_);(case hT=>exact HH.out.below Hbr.out);(case hd=>exact HD.out);rw[Hde.out];rintro e5 y5 ⟨A5,a5,B5,b5,C5,c5,D5,d5,rfl,s1,s2,s3,s4,hb5⟩;have S1:=zh s1.bz;have S2:=zh s2.bz;have Hb5:=zh hb5;clear s1 s2 s3 s4 hb5)
      go_roundw
      case rel=>exact⟨k+1,AO,by go_num,Hsk.out.trans (aC.of_below (Hb5.out.alloc Hb5.out.size _)),Hbr.out.next (Hb5.out.alloc Hb5.out.size _) Hbr.out.size⟩
      case measure=>simp[intOf];omega
    ·have ee:(ed != 0)=true:=by simpa using he
     clear hprf hde
     go_wp2_with (go_at_call 19;(with_reducible refine (aE7 _ ?hT D x.data d ?hd hxd).mono ?_);(case hT=>exact HH.out.below Hbr.out);(case hd=>exact HD.out);rw[Hde.out];rintro e5 y5 ⟨A5,a5,B5,b5,C5,c5,D5,d5,rfl,s1,s2,s3,s4,hb5⟩;have S1:=zh s1.bz;have S2:=zh s2.bz;have Hb5:=zh hb5;clear s1 s2 s3 s4 hb5)
     go_roundw
     case rel=>exact⟨k+1,AO,by go_num,Hsk.out.trans (aC.of_below (Hb5.out.alloc Hb5.out.size _)),Hbr.out.next (Hb5.out.alloc Hb5.out.size _) Hbr.out.size⟩
     case measure=>simp[intOf];omega
   ·have e1:(x.kind != 1)=true:=by simpa using hk1
    clear hprf hde
    go_wp2
    go_roundw
    case rel=>exact⟨k+1,AO,by go_num,Hsk.out,Hbr.out⟩
    case measure=>simp[intOf];omega
  ·have i1:(xs.length:Int)≤(k:Int):=by omega
   obtain⟨u,tn,pd,fo,rl,HRz,htn⟩:=dP2 Hxs.out AO
   have HXZ:=zh ((HXL.out.same acR_stays Hsk.out).z acR_stays)
   go_upto_region 22 with (go_at_call 12;(with_reducible refine (Hid.out HRz _ VA _ vc rfl ?hT ?hH ?ha).mono ?_);(case hT=>exact HT.out.below Hbr.out);(case hH=>exact HH.out.below Hbr.out);(case ha=>exact HXZ.out);rintro e21 u21 ⟨F21,f21,R21,r21,W21,b21,hi21,rfl,hW21,hbb21,hhi21,hB21,hw21,hu21,hv21⟩;have HV21:=zh hv21;have HB21:=zh hB21;have Hw21:=zh hw21;have HW21:=zh hW21;have Hbb21:=zh hbb21;have Hhi21:=zh hhi21;clear hB21 hw21 hu21 hv21 hW21 hbb21 hhi21)
   rw[HW21.out,Hbb21.out]
   have o1:=HB21.out.cells.2.1
   dsimp only at o1
   go_wp2
   go_ret
   exact⟨rfl,Hbr.out.next Hw21.out Hbr.out.size⟩
theorem dP4 (w:World) (hT:bD w) (hH:bL w) {A:Option Addr} {l:List Gr} {c:Nat} (h:Grs All w A l∧l.length≤big) :
  Calls Tryz.prog 6 #[.slice A l.length c] w (bQ w (.bool true)):=dP3 w hT hH A l c h.1 h.2
end Go.Proofs.YtodopbnhkkkcbaaGreatDoor
