/- TopAb: Walk: TopAbort. The conditions of each are in its words. -/
import Derived.Test.YtlhpfgpagggdlaaGreatDoorKTopW
import Derived.Test.YtlhpfgpagggdlaaGreatDoorKTopL
namespace Go.Proofs.YtlhpfgpagggdlaaGreatDoor
open Go.RowKit
set_option linter.unusedVariables false
set_option linter.unusedSimpArgs false
set_option maxRecDepth 100000
set_option maxHeartbeats 8000000
theorem dF8 {xs:List Ac} (hx:∀ a ∈ xs,aB6 a=0) (hl:xs.length≤60):∃ (u:Bool) (tn pd:Int) (fo:List Tn) (rl:List Rp),dA3 xs ⟨u,tn,pd,fo,rl⟩∧Hid (∀ ys:List Ac,(∀ a ∈ ys,aB6 a=0∧Asky a)→ys.length≤20→∃ r:List Rp,dA3 (xs++ys) ⟨u,tn,pd,fo,r⟩∧r.length=rl.length+ys.length)∧fo.length≤8∧rl.length≤60:=by
 have ht:=(cZ1 hx).told
 refine⟨(bM xs).up,(bM xs).synced,(bM xs).waiting.length,aS (bM xs).commits (bM xs).synced,(bM xs).replies,dA4 hx AO rfl,zh fun ys hy hyl=>?_,(bZ6 _ _).len,AO⟩
 obtain⟨b1,b2,b3,b4,b5⟩:=asky_fold ys (bM xs) xs.length (cZ1 hx) hy
 refine⟨(ys.foldl doE (bM xs)).replies,dA4 (fun a ha=>?_) (by rw[List.length_append];omega) ?_,b5⟩
 ·rcases List.mem_append.1 ha with h|h
  ·exact hx a h
  ·exact (hy a h).1
 ·rw[dA0]
  unfold Eng.out Eng.now
  rw[b1,b2,b3,b4]
theorem dF9 (w:World) (hT:bD w) (hH:bL w) (A:Option Addr) (l:List Gr) (c:Nat) (M:Option Addr) (ml:List Gr) (mc:Nat) (ha:Grs All w A l) (hl:l.length≤big) (hM:Grs All w M ml) :
  Calls Tryz.prog 10 #[.slice A l.length c,.slice M ml.length mc] w (bQ w (.bool true)):=by
 have HT:=zh hT
 have HH:=zh hH
 have Ha:=zh ha
 have HM:=zh hM
 obtain⟨i0,z0,hi0,hz0,hz1,hz2,hz3⟩:=ac_parts
 obtain⟨d7,HK7,f7,e7,_⟩:=dE3 3 3 rfl AO 7 AO
 obtain⟨d1,HK1,f1,e1,_⟩:=dE3 3 3 rfl AO 1 AO
 have HA7:=zh (show aB6 ⟨1,((3:Nat):Int),0,d7⟩=0∧Asky ⟨1,((3:Nat):Int),0,d7⟩ from ⟨f7,dE5 AO (fun _=>by rw[e7]) (by decide)⟩)
 have HA1:=zh (show aB6 ⟨1,((3:Nat):Int),0,d1⟩=0∧Asky ⟨1,((3:Nat):Int),0,d1⟩ from ⟨f1,dE5 AO (fun _=>by rw[e1]) (by decide)⟩)
 clear hT hH ha hM f7 e7 f1 e1
 go_enter Tryz.func10,Tryz.ntmps10
 go_upto_region 2 with (go_at_call 15;(with_reducible refine (cX5 _ ?hT A l c 40 40 rfl AO ?ha hl).mono ?_);(case hT=>exact HH.out);(case ha=>exact Ha.out);rintro e1 w1 ⟨xs,v,rfl,hxl,hxs,hown,hb1⟩;obtain⟨VA,vc,rfl,hvc,hacs⟩:=hown.readc acR_stays;have Hxs:=zh hxs;have Hown1:=zh hown;have HX1:=zh hacs;have Hb1:=zh hb1;clear hxs hown hacs hb1)
 obtain⟨u,tn,pd,fo,rl,HR2,HRx,hfo,hrl⟩:=dF8 Hxs.out AO
 go_upto_region 3 with (go_at_call 16;(with_reducible refine (Hid.out HR2 _ VA _ vc rfl ?hT ?hH ?ha).mono ?_);(case hT=>exact HT.out.below Hb1.out);(case hH=>exact HH.out.below Hb1.out);(case ha=>exact (HX1.out.z acR_stays));rintro e2 u2 ⟨F2,f2,R2,r2,W2,b2,hi2,rfl,hW2,hbb2,hhi2,hB2,hw2,hu2,hv2⟩;have HV2:=zh hv2;have HB2:=zh hB2;have Hw2:=zh hw2;have HW2:=zh hW2;have Hbb2:=zh hbb2;have Hhi2:=zh hhi2;clear hB2 hw2 hu2 hv2 hW2 hbb2 hhi2)
 rw[HW2.out,Hbb2.out]
 obtain⟨lo,hlo⟩:∃ lo,lo=w1.heap.size:=⟨_,rfl⟩
 rw[← hlo] at HB2
 have Hb2:=zh (Hb1.out.next Hw2.out Hb1.out.size)
 have HG2:=zh (show Gro w.heap.size lo hi2 W2 (.slice VA xs.length vc) xs from ⟨Hown1.out.below acR_stays Hw2.out,fun x hx hb=>Hown1.out.apart lo (by rw[hlo];exact zn) x hb.1 hx,Hxs.out⟩)
 have Hh2:=zh (show hi2≤W2.heap.size by rw[Hhi2.out];exact zn)
 clear hlo HW2 Hbb2 Hhi2 Hown1 HX1 Hb1 Hw2 HR2
 go_upto_region 4 with (first|(go_at_call 23;(with_reducible refine (HK7.out _ ?hT).mono ?_);(case hT=>exact HH.out.below Hb2.out);rintro e7 y7 ⟨A7,c7,rfl,hc7,hs7,hb7⟩;have S7:=zh hs7;have Hy7:=zh hb7;clear hs7 hb7)|(go_at_call 23;(with_reducible refine (HK1.out _ ?hT).mono ?_);(case hT=>exact HH.out.below (Hb2.out.next Hy7.out Hb2.out.size));rintro e1 y1 ⟨A1,c1,rfl,hc1,hs1,hb1⟩;have S1:=zh (hs1.blo Hy7.out.size);have S7b:=zh (S7.out.bbelow hb1);have Hy1:=zh (Hy7.out.next hb1 Hy7.out.size);clear hs1 hb1)|(at_builtin;refine wpl_cat acR_stays acR_one (S:=(aB w.heap.size)) _ rfl _ _ _ rfl w.heap.size 49 i0 _ 4 48 Tryz.underlying23 hi0 hz0 hz1 hz2 hz3 (by decide) (.slice VA xs.length vc) xs rfl ?hown _ 2 _ [(⟨1,((3:Nat):Int),0,d7⟩:Ac),⟨1,((3:Nat):Int),0,d1⟩] rfl rfl ?hsrc ?h63 ?hby ?hba ?_;(case hown=>exact (HG2.out.own.below acR_stays Hy1.out).below acR_stays ((Below.refl _ _).alloc zn _));(case hsrc=>exact sl_two _ _ [.int .i64 1,.int .i64 3,.int .i64 0,.slice A7 d7.length c7] [.int .i64 1,.int .i64 3,.int .i64 0,.slice A1 d1.length c1] _ (aK _ _ _) rfl rfl _ _ ⟨A7,c7,rfl,hc7,(S7b.out.bbelow ((Below.refl _ _).alloc zn _)).bless fun b _ h=>⟨Nat.le_trans Hb2.out.size h,HG2.out.own.apart _ zn b h⟩⟩ ⟨A1,c1,rfl,hc1,(S1.out.bbelow ((Below.refl _ _).alloc zn _)).bless fun b _ h=>⟨Nat.le_trans Hb2.out.size h,HG2.out.own.apart _ zn b h⟩⟩ ⟨Nat.le_trans Hb2.out.size Hy1.out.size,HG2.out.own.apart _ Hy1.out.size _ zn⟩);(case h63=>(simp only[maxLen,List.length_cons,List.length_nil];omega));(case hby=>(simp only[List.length_cons,List.length_nil];omega));(case hba=>exact (Nat.le_trans Hb2.out.size (Nat.le_trans Hy1.out.size (by simp))));intro v3 y3 hown3 hb3 hg3 hat3))
 obtain⟨V3,c3,rfl⟩:=aP6 hown3
 have hh3:hi2≤(y1.alloc (.cells #[.int .i64 1,.int .i64 3,.int .i64 0,.slice A7 d7.length c7,.int .i64 1,.int .i64 3,.int .i64 0,.slice A1 d1.length c1] 49)).heap.size:=Nat.le_trans Hh2.out (Nat.le_trans Hy1.out.size (by simp))
 have hb3':Below w.heap.size w y3:=((Hb2.out.next Hy1.out Hb2.out.size).alloc (Nat.le_trans Hb2.out.size Hy1.out.size) _).trans hb3
 have HG3:=zh (HG2.out.app hown3 hat3 hh3 (fun a ha=>by
  simp at ha
  rcases ha with rfl|rfl
  ·exact HA7.out.1
  ·exact HA1.out.1))
 have HB3:=zh (((HB2.out.below Hy1.out).below ((Below.refl _ _).alloc zn _)).same (HG2.out.same hg3))
 have Hh3:=zh (Nat.le_trans hh3 hg3.size)
 have Hb3:=zh hb3'
 obtain⟨n0,hn0⟩:∃ n0,n0=(xs++[(⟨1,((3:Nat):Int),0,d7⟩:Ac),⟨1,((3:Nat):Int),0,d1⟩]).length:=⟨_,rfl⟩
 rw[← hn0]
 have Hn0:=zh hn0
 clear hown3 hat3 hg3 hb3 hb3' hh3 HG2 HB2 Hh2 Hb2 S7 S7b S1 Hy7 Hy1 hn0
 go_wp2
 go_loopw [8,9] (fun v i wr=>∃ (k:Nat) (ys:List Ac),k≤ml.length∧k≤10∧i=.int .i64 k∧ys.length≤k+2∧(∀ a ∈ ys,aB6 a=0∧Asky a)∧Gro w.heap.size lo hi2 wr v (xs++ys)∧OcB lo hi2 wr b2 ⟨u,tn,pd,fo,rl⟩ F2 f2 R2 r2∧hi2≤wr.heap.size∧Below w.heap.size w wr) (fun _ i _=>ml.length - (intOf i).toNat)
 case atStart=>exact⟨0,[⟨1,((3:Nat):Int),0,d7⟩,⟨1,((3:Nat):Int),0,d1⟩],AO,by omega,rfl,Nat.le_refl 2,(fun a ha=>by
  simp at ha
  rcases ha with rfl|rfl
  ·exact HA7.out
  ·exact HA1.out),by rw[Hn0.out];exact HG3.out,HB3.out,Hh3.out,Hb3.out⟩
 case round =>
  obtain⟨k,ys,hk,hk10,rfl,hyl,hyk,hgro,hob,hhi,hbr⟩:=hrel
  obtain⟨wo,rfl⟩:∃ wo:World,wo=wr:=⟨_,rfl⟩
  obtain⟨ns,hns⟩:∃ ns,ns=xs++ys:=⟨_,rfl⟩
  have hnl:ns.length=xs.length+ys.length:=by rw[hns,List.length_append]
  have hnl2:ns.length≤52:=by omega
  rw[← hns] at hgro
  obtain⟨VA2,vc2,rfl⟩:=aP6 hgro.own
  have Hns:=zh hns
  have Hnl:=zh hnl
  have Hyk:=zh hyk
  have Hgro:=zh hgro
  have Hob:=zh hob
  have Hhi:=zh hhi
  have Hbr:=zh hbr
  clear hyk hgro hob hhi hbr hns hnl HG3 HB3 Hb3 Hh3
  by_cases hlt:k<ml.length∧k<10
  ·obtain⟨hlt,hkn⟩:=hlt
   obtain⟨b,off,rfl,hab,a0,a1,a2,a3,a4,q0,q1,q2,q3,q4⟩:=grs_at (HM.out.below grR_stays Hbr.out) hlt
   have i0':(0:Int)≤(k:Int):=by omega
   have i1':(k:Int)<(ml.length:Int):=by omega
   have i2':(k:Int)<10:=by omega
   generalize ml[k]=g at *
   go_upto_region 8 with (go_at_call 24;(with_reducible refine (cP6 _ g q0 q2 q3 q4).mono ?_);rintro e5 u5 ⟨r,A5,a5,B5,b5,C5,c5,D5,d5,rfl,_,s1,s2,s3,s4,hb5⟩;have S1:=zh s1;have S2:=zh s2;have S3:=zh s3;have S4:=zh s4;have Hb5:=zh hb5;clear s1 s2 s3 s4 hb5)
   have hbx:=aK u5 #[.int .i64 r.kind,.slice A5 r.name.length a5,.slice B5 r.key.length b5,.slice C5 r.last.length c5,.slice D5 r.value.length d5] 51
   obtain⟨wb,hwb⟩:∃ wb,wb=u5.alloc (.cells #[.int .i64 r.kind,.slice A5 r.name.length a5,.slice B5 r.key.length b5,.slice C5 r.last.length c5,.slice D5 r.value.length d5] 51):=⟨_,rfl⟩
   have hwu:Below wo.heap.size wo wb:=by rw[hwb];exact Hb5.out.alloc Hb5.out.size _
   have T1:=zh (show Bs (aB wo.heap.size) wb A5 r.name by rw[hwb];exact S1.out.bbelow ((Below.refl _ _).alloc zn _))
   have T2:=zh (show Bs (aB wo.heap.size) wb B5 r.key by rw[hwb];exact S2.out.bbelow ((Below.refl _ _).alloc zn _))
   have T3:=zh (show Bs (aB wo.heap.size) wb C5 r.last by rw[hwb];exact S3.out.bbelow ((Below.refl _ _).alloc zn _))
   have T4:=zh (show Bs (aB wo.heap.size) wb D5 r.value by rw[hwb];exact S4.out.bbelow ((Below.refl _ _).alloc zn _))
   rw[← hwb] at hbx ⊢
   obtain⟨bx,hbxe⟩:∃ bx,bx=u5.heap.size:=⟨_,rfl⟩
   rw[← hbxe] at hbx ⊢
   have hbl:bx<wb.heap.size:=(Array.getElem?_eq_some_iff.1 hbx).1
   have x0:=aA (cs:=[.int .i64 r.kind,.slice A5 r.name.length a5,.slice B5 r.key.length b5,.slice C5 r.last.length c5,.slice D5 r.value.length d5]) hbx 0
   have x1:=aA (cs:=[.int .i64 r.kind,.slice A5 r.name.length a5,.slice B5 r.key.length b5,.slice C5 r.last.length c5,.slice D5 r.value.length d5]) hbx 1
   have x2:=aA (cs:=[.int .i64 r.kind,.slice A5 r.name.length a5,.slice B5 r.key.length b5,.slice C5 r.last.length c5,.slice D5 r.value.length d5]) hbx 2
   have x3:=aA (cs:=[.int .i64 r.kind,.slice A5 r.name.length a5,.slice B5 r.key.length b5,.slice C5 r.last.length c5,.slice D5 r.value.length d5]) hbx 3
   have x4:=aA (cs:=[.int .i64 r.kind,.slice A5 r.name.length a5,.slice B5 r.key.length b5,.slice C5 r.last.length c5,.slice D5 r.value.length d5]) hbx 4
   simp only[List.getElem?_cons_zero,List.getElem?_cons_succ] at x0 x1 x2 x3 x4
   have Hbw:=zh (Hbr.out.next hwu Hbr.out.size)
   have Hgw:=zh (Hgro.out.below hwu)
   have How:=zh (Hob.out.below hwu)
   have Hhw:=zh (Nat.le_trans Hhi.out hwu.size)
   have Hwu:=zh hwu
   clear hwb hbxe hwu hbx S1 S2 S3 S4 Hb5
   obtain⟨dr,HKr,fr,er,_⟩:=dE4 3 3 rfl AO r
   have HAr:=zh (show r.kind≠6→aB6 ⟨1,((3:Nat):Int),0,dr⟩=0∧Asky ⟨1,((3:Nat):Int),0,dr⟩ from fun h=>⟨fr,dE5 AO er h⟩)
   clear fr er
   by_cases h6:r.kind=6
   ·have z6:(r.kind != 6)=false:=by simp[h6]
    have H6:=zh h6
    clear h6
    go_wp2
    go_roundw
    case rel=>exact⟨k+1,ys,AO,by omega,by go_num,AO,Hyk.out,by rw[← Hns.out];exact Hgw.out,How.out,Hhw.out,Hbw.out⟩
    case measure=>simp[intOf];omega
   ·have z6:(r.kind != 6)=true:=by simpa using h6
    by_cases h7:r.kind=7
    ·have z7:(r.kind != 7)=false:=by simp[h7]
     have H7:=zh h7
     clear h7
     go_wp2
     go_roundw
     case rel=>exact⟨k+1,ys,AO,by omega,by go_num,AO,Hyk.out,by rw[← Hns.out];exact Hgw.out,How.out,Hhw.out,Hbw.out⟩
     case measure=>simp[intOf];omega
    ·have z7:(r.kind != 7)=true:=by simpa using h7
     by_cases h1:r.kind=1
     ·have z1:(r.kind != 1)=false:=by simp[h1]
      have H1:=zh h1
      clear h1
      go_wp2
      go_roundw
      case rel=>exact⟨k+1,ys,AO,by omega,by go_num,AO,Hyk.out,by rw[← Hns.out];exact Hgw.out,How.out,Hhw.out,Hbw.out⟩
      case measure=>simp[intOf];omega
     ·have z1:(r.kind != 1)=true:=by simpa using h1
      have H6:=zh h6
      clear h6 h7 h1
      go_wp2_with (first|(go_at_call 23;(with_reducible refine (HKr.out _ A5 B5 C5 D5 a5 b5 c5 d5 ?hT ?h1 ?h2 ?h3 ?h4).mono ?_);(case hT=>exact HH.out.below Hbw.out);(case h1=>exact T1.out.bz);(case h2=>exact T2.out.bz);(case h3=>exact T3.out.bz);(case h4=>exact T4.out.bz);rintro e6 y6 ⟨A6,c6,rfl,hc6,hs6,hb6⟩;have S6:=zh hs6;have Hy6:=zh hb6;clear hs6 hb6)|(at_builtin;refine wpl_cat acR_stays acR_one (S:=(aB w.heap.size)) _ rfl _ _ _ rfl w.heap.size 49 i0 _ 4 48 Tryz.underlying23 hi0 hz0 hz1 hz2 hz3 (by decide) (.slice VA2 ns.length vc2) ns rfl ?hown _ 1 _ [(⟨1,((3:Nat):Int),0,dr⟩:Ac)] rfl rfl ?hsrc ?h63 ?hby ?hba ?_;(case hown=>exact (Hgw.out.own.below acR_stays Hy6.out).below acR_stays ((Below.refl _ _).alloc zn _));(case hsrc=>exact sl_one _ _ [.int .i64 1,.int .i64 3,.int .i64 0,.slice A6 dr.length c6] _ (aK _ _ _) rfl _ ⟨A6,c6,rfl,hc6,(S6.out.bbelow ((Below.refl _ _).alloc zn _)).bless fun b _ h=>⟨Nat.le_trans Hbw.out.size h,Hgw.out.own.apart _ zn b h⟩⟩ ⟨Nat.le_trans Hbw.out.size Hy6.out.size,Hgw.out.own.apart _ Hy6.out.size _ zn⟩);(case h63=>(simp only[maxLen,List.length_singleton];omega));(case hby=>(simp only[List.length_singleton];omega));(case hba=>exact (Nat.le_trans Hbw.out.size (Nat.le_trans Hy6.out.size (by simp))));intro v8 y8 hown8 hb8 hg8 hat8))
      go_roundw
      case rel=>exact⟨k+1,ys++[⟨1,((3:Nat):Int),0,dr⟩],AO,by omega,by go_num,by simp;omega,(fun a ha=>by
       rcases List.mem_append.1 ha with h|h
       ·exact Hyk.out a h
       ·rw[List.mem_singleton] at h;rw[h];exact HAr.out H6.out),by rw[← List.append_assoc,← Hns.out];exact (Hgw.out.below Hy6.out).app hown8 hat8 (Nat.le_trans Hhw.out (Nat.le_trans Hy6.out.size (by simp))) (fun a ha=>by rw[List.mem_singleton] at ha;rw[ha];exact (HAr.out H6.out).1),((How.out.below Hy6.out).below ((Below.refl _ _).alloc zn _)).same (Hgw.out.same hg8),Nat.le_trans Hhw.out (Nat.le_trans Hy6.out.size (Nat.le_trans (by simp) hg8.size)),((Hbw.out.next Hy6.out Hbw.out.size).alloc (Nat.le_trans Hbw.out.size Hy6.out.size) _).trans hb8⟩
      case measure=>simp[intOf];omega
  ·have hcase:((ml.length:Int)≤(k:Int))∨((k:Int)<(ml.length:Int)∧(10:Int)≤(k:Int)):=by omega
   clear hlt
   obtain⟨rl2,HR12,hr2⟩:∃ rl2:List Rp,dA3 (ns++[(⟨1,((3:Nat):Int),0,d7⟩:Ac)]) ⟨u,tn,pd,fo,rl2⟩∧rl2.length=rl.length+ys.length+1:=by
    obtain⟨r,h1,h2⟩:=HRx.out (ys++[⟨1,((3:Nat):Int),0,d7⟩]) (fun a ha=>by
     rcases List.mem_append.1 ha with h|h
     ·exact Hyk.out a h
     ·rw[List.mem_singleton] at h;rw[h];exact HA7.out) (by simp;omega)
    exact⟨r,by rw[Hns.out,List.append_assoc];exact h1,by rw[h2,List.length_append,List.length_singleton];omega⟩
   have hr3:(rl2.length:Int)=(rl.length:Int)+((ns.length:Int)+1) - (xs.length:Int):=by have:=Hnl.out;omega
   have e9:((rl2.length:Int)==(rl.length:Int)+((ns.length:Int)+1) - (xs.length:Int))=true:=by simp[hr3]
   have hbig:fo.length≤big:=by unfold big;omega
   have m1:(rl.length:Int)≤60:=by omega
   have m2:(ns.length:Int)≤52:=by omega
   have m3:(xs.length:Int)≤40:=by omega
   have m4:(0:Int)≤(rl.length:Int):=by omega
   have m5:(0:Int)≤(ns.length:Int):=by omega
   have m6:(0:Int)≤(xs.length:Int):=by omega
   clear hr2 hr3
   rcases hcase with hle|⟨hkl,hle⟩
   all_goals
    go_upto_region 11 with (first|(go_at_call 23;(with_reducible refine (HK7.out _ ?hT).mono ?_);(case hT=>exact HH.out.below Hbr.out);rintro e9 y9 ⟨A9,c9,rfl,hc9,hs9,hb9⟩;have S9:=zh hs9;have Hy9:=zh hb9;clear hs9 hb9)|(at_builtin;refine wpl_cat acR_stays acR_one (S:=(aB w.heap.size)) _ rfl _ _ _ rfl w.heap.size 49 i0 _ 4 48 Tryz.underlying23 hi0 hz0 hz1 hz2 hz3 (by decide) (.slice VA2 ns.length vc2) ns rfl ?hown _ 1 _ [(⟨1,((3:Nat):Int),0,d7⟩:Ac)] rfl rfl ?hsrc ?h63 ?hby ?hba ?_;(case hown=>exact (Hgro.out.own.below acR_stays Hy9.out).below acR_stays ((Below.refl _ _).alloc zn _));(case hsrc=>exact sl_one _ _ [.int .i64 1,.int .i64 3,.int .i64 0,.slice A9 d7.length c9] _ (aK _ _ _) rfl _ ⟨A9,c9,rfl,hc9,(S9.out.bbelow ((Below.refl _ _).alloc zn _)).bless fun b _ h=>⟨Nat.le_trans Hbr.out.size h,Hgro.out.own.apart _ zn b h⟩⟩ ⟨Nat.le_trans Hbr.out.size Hy9.out.size,Hgro.out.own.apart _ Hy9.out.size _ zn⟩);(case h63=>(simp only[maxLen,List.length_singleton];omega));(case hby=>(simp only[List.length_singleton];omega));(case hba=>exact (Nat.le_trans Hbr.out.size (Nat.le_trans Hy9.out.size (by simp))));intro v10 y10 hown10 hb10 hg10 hat10))
    obtain⟨V11,c11,hve11,hvc11,hsl11⟩:=hown10.readc acR_stays
    subst hve11
    have HX11:=zh (hsl11.z acR_stays)
    have HB11:=zh (((Hob.out.below Hy9.out).below ((Below.refl _ _).alloc zn _)).same (Hgro.out.same hg10))
    have Hb11:=zh (((Hbr.out.next Hy9.out Hbr.out.size).alloc (Nat.le_trans Hbr.out.size Hy9.out.size) _).trans hb10)
    clear hown10 hvc11 hsl11 hat10 hg10 hb10 Hgro Hob Hhi Hbr Hy9 S9
    go_upto_region 12 with (go_at_call 16;(with_reducible refine (Hid.out HR12 _ V11 (ns.length+1) c11 (by simp) ?hT ?hH ?ha).mono ?_);(case hT=>exact HT.out.below Hb11.out);(case hH=>exact HH.out.below Hb11.out);(case ha=>exact HX11.out);rintro e12 u12 ⟨F12,f12,R12,r12,W12,b12,hi12,rfl,hW12,hbb12,hhi12,hB12,hw12,hu12,hv12⟩;have HV12:=zh hv12;have HB12:=zh hB12;have Hw12:=zh hw12;have HW12:=zh hW12;have Hbb12:=zh hbb12;have Hhi12:=zh hhi12;clear hB12 hw12 hu12 hv12 hW12 hbb12 hhi12)
    rw[HW12.out,Hbb12.out]
    have hA:=HB11.out.below Hw12.out
    have hB:=HB12.out
    obtain⟨x0,x1,x2,x3,x4⟩:=hA.cells
    obtain⟨z0',z1,z2',z3,z4⟩:=hB.cells
    have lA:=hA.lt
    have lB:=hB.lt
    have FA:=zh (hA.fo.z tenR_stays)
    have FB:=zh (hB.fo.z tenR_stays)
    have HbF:=zh (Hb11.out.next Hw12.out Hb11.out.size)
    dsimp only at x0 x1 x2 x3 x4 z0' z1 z2' z3 z4 FA FB
    clear hA hB HB11 HB12 HX11 Hb11 Hw12 HR12 HW12 Hbb12 Hhi12
    go_wp2_with (go_at_call 22;refine (SameForestK_ok _ F2 F12 fo f2 f12 FA.out FB.out hbig).mono ?_;rintro e13 u13 ⟨rfl,hb13⟩;have d0:=(hb13.cell (p:=⟨b2,0,none⟩) lA).trans x0;have d1:=(hb13.cell (p:=⟨b2,4,none⟩) lA).trans x4;have d2:=(hb13.cell (p:=⟨b12,0,none⟩) lB).trans z0';have d3:=(hb13.cell (p:=⟨b12,4,none⟩) lB).trans z4)
    go_ret
    exact⟨rfl,HbF.out.next hb13 HbF.out.size⟩
theorem dG0 (w:World) (hT:bD w) (hH:bL w) {A:Option Addr} {l:List Gr} {c:Nat} (h:Grs All w A l∧l.length≤big) {M:Option Addr} {ml:List Gr} {mc:Nat} (hM:Grs All w M ml∧ml.length≤big) :
  Calls Tryz.prog 10 #[.slice A l.length c,.slice M ml.length mc] w (bQ w (.bool true)):=dF9 w hT hH A l c M ml mc h.1 h.2 hM.1
end Go.Proofs.YtlhpfgpagggdlaaGreatDoor
