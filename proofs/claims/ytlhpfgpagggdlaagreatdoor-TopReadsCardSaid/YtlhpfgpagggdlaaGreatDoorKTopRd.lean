/- TopRd: Walk: TopReads. The conditions of each are in its words. -/
import Derived.Test.YtlhpfgpagggdlaaGreatDoorKTopW
import Derived.Test.YtlhpfgpagggdlaaGreatDoorKTopL
namespace Go.Proofs.YtlhpfgpagggdlaaGreatDoor
open Go.RowKit
set_option linter.unusedVariables false
set_option linter.unusedSimpArgs false
set_option maxRecDepth 100000
set_option maxHeartbeats 8000000
theorem dG1 (w:World) (hT:bD w) (hH:bL w) (A:Option Addr) (l:List Gr) (c:Nat) (M:Option Addr) (ml:List Gr) (mc:Nat) (ha:Grs All w A l) (hl:l.length≤big) (hM:Grs All w M ml) :
  Calls Tryz.prog 14 #[.slice A l.length c,.slice M ml.length mc] w (bQ w (.bool true)):=by
 have HT:=zh hT
 have HH:=zh hH
 have Ha:=zh ha
 have HM:=zh hM
 obtain⟨i0,z0,hi0,hz0,hz1,hz2,hz3⟩:=ac_parts
 obtain⟨d7,HK7,f7,e7,_⟩:=dE3 2 2 rfl AO 7 AO
 obtain⟨d1,HK1,f1,e1,_⟩:=dE3 2 2 rfl AO 1 AO
 obtain⟨d6,HK6,f6,e6,_⟩:=dE3 2 2 rfl AO 6 AO
 have HF6:=zh f6
 have HPlain:=zh (fun (xs:List Ac) (hx:∀ a ∈ xs,aB6 a=0) (hl:xs.length≤60)=>dF7 hx hl e7 e1 e6 f7 f1 f6)
 clear hT hH ha hM f7 e7 f1 e1 f6 e6
 go_enter Tryz.func14,Tryz.ntmps14
 go_upto_region 2 with (first|(go_at_call 15;(with_reducible refine (cX5 _ ?hT A l c 40 40 rfl AO ?ha hl).mono ?_);(case hT=>exact HH.out);(case ha=>exact Ha.out);rintro e1 w1 ⟨xs,v,rfl,hxl,hxs,hown,hb1⟩;obtain⟨VA,vc,rfl,hvc,hacs⟩:=hown.readc acR_stays;have Hxs:=zh hxs;have Hown1:=zh hown;have HX1:=zh hacs;have Hb1:=zh hb1;clear hxs hown hacs hb1)|(go_at_call 23;(with_reducible refine (HK7.out _ ?hT).mono ?_);(case hT=>exact HH.out.below Hb1.out);rintro e7 y7 ⟨A7,c7,rfl,hc7,hs7,hb7⟩;have S7:=zh hs7;have Hy7:=zh hb7;clear hs7 hb7)|(go_at_call 23;(with_reducible refine (HK1.out _ ?hT).mono ?_);(case hT=>exact HH.out.below (Hb1.out.next Hy7.out Hb1.out.size));rintro e2 y1 ⟨A1,c1,rfl,hc1,hs1,hb1⟩;have S1:=zh (hs1.blo Hy7.out.size);have S7b:=zh (S7.out.bbelow hb1);have Hy1:=zh (Hy7.out.next hb1 Hy7.out.size);clear hs1 hb1)|(at_builtin;refine wpl_cat acR_stays acR_one (S:=(aB w.heap.size)) _ rfl _ _ _ rfl w.heap.size 49 i0 _ 4 48 Tryz.underlying23 hi0 hz0 hz1 hz2 hz3 (by decide) (.slice VA xs.length vc) xs rfl ?hown _ 4 _ [(⟨2,0,0,[]⟩:Ac),⟨4,0,0,[]⟩,⟨1,((2:Nat):Int),0,d7⟩,⟨1,((2:Nat):Int),0,d1⟩] rfl rfl ?hsrc ?h63 ?hby ?hba ?_;(case hown=>exact (Hown1.out.below acR_stays Hy1.out).below acR_stays ((Below.refl _ _).alloc zn _));(case hsrc=>exact sl_four _ _ [.int .i64 2,.int .i64 0,.int .i64 0,.slice none 0 0] [.int .i64 4,.int .i64 0,.int .i64 0,.slice none 0 0] [.int .i64 1,.int .i64 2,.int .i64 0,.slice A7 d7.length c7] [.int .i64 1,.int .i64 2,.int .i64 0,.slice A1 d1.length c1] _ (aK _ _ _) rfl rfl rfl rfl _ _ _ _ ⟨none,0,rfl,zn,SL.nil⟩ ⟨none,0,rfl,zn,SL.nil⟩ ⟨A7,c7,rfl,hc7,(S7b.out.bbelow ((Below.refl _ _).alloc zn _)).bless fun b _ h=>⟨Nat.le_trans Hb1.out.size h,Hown1.out.apart _ zn b h⟩⟩ ⟨A1,c1,rfl,hc1,(S1.out.bbelow ((Below.refl _ _).alloc zn _)).bless fun b _ h=>⟨Nat.le_trans Hb1.out.size h,Hown1.out.apart _ zn b h⟩⟩ ⟨Nat.le_trans Hb1.out.size Hy1.out.size,Hown1.out.apart _ Hy1.out.size _ zn⟩);(case h63=>(simp only[maxLen,List.length_cons,List.length_nil];omega));(case hby=>(simp only[List.length_cons,List.length_nil];omega));(case hba=>exact (Nat.le_trans Hb1.out.size (Nat.le_trans Hy1.out.size (by simp))));intro v3 y3 hown3 hb3 hg3 hat3))
 obtain⟨tn,pd,fo,rl,HR4,hfz,HRx,hfo⟩:=HPlain.out xs Hxs.out AO
 obtain⟨zs,hzs⟩:∃ zs,zs=xs++dF6 d7 d1:=⟨_,rfl⟩
 have hzl:zs.length≤44:=by rw[hzs,List.length_append];simp[dF6];omega
 have hh4:xs++[(⟨2,0,0,[]⟩:Ac),⟨4,0,0,[]⟩,⟨1,((2:Nat):Int),0,d7⟩,⟨1,((2:Nat):Int),0,d1⟩]=zs:=hzs.symm
 rw[hh4] at hown3
 rw[← hzs] at HR4 hfz HRx
 obtain⟨V3,c3,hve3,hvc3,hsl3⟩:=hown3.readc acR_stays
 subst hve3
 have HX3:=zh hsl3
 have Hown3:=zh hown3
 have Hb3:=zh (((Hb1.out.next Hy1.out Hb1.out.size).alloc (Nat.le_trans Hb1.out.size Hy1.out.size) _).trans hb3)
 have Hfz:=zh hfz
 clear hown3 hsl3 hvc3 hb3 hg3 hat3 hzs hh4 hfz HPlain Hown1 HX1 S7 S7b S1 Hy7 Hy1 Hb1
 go_upto_region 3 with (go_at_call 16;(with_reducible refine (Hid.out HR4 _ V3 _ c3 rfl ?hT ?hH ?ha).mono ?_);(case hT=>exact HT.out.below Hb3.out);(case hH=>exact HH.out.below Hb3.out);(case ha=>exact (HX3.out.z acR_stays));rintro e4 u4 ⟨F4,f4,R4,r4,W4,b4,hi4,rfl,hW4,hbb4,hhi4,hB4,hw4,hu4,hv4⟩;have HV4:=zh hv4;have HB4:=zh hB4;have Hw4:=zh hw4;have HW4:=zh hW4;have Hbb4:=zh hbb4;have Hhi4:=zh hhi4;clear hB4 hw4 hu4 hv4 hW4 hbb4 hhi4)
 rw[HW4.out,Hbb4.out]
 obtain⟨lo,hlo⟩:∃ lo,lo=y3.heap.size:=⟨_,rfl⟩
 rw[← hlo] at HB4
 have Hb4:=zh (Hb3.out.next Hw4.out Hb3.out.size)
 have HG4:=zh (show Gro w.heap.size lo hi4 W4 (.slice V3 zs.length c3) zs from ⟨Hown3.out.below acR_stays Hw4.out,fun x hx hb=>Hown3.out.apart lo (by rw[hlo];exact zn) x hb.1 hx,Hfz.out⟩)
 have Hh4:=zh (show hi4≤W4.heap.size by rw[Hhi4.out];exact zn)
 clear hlo HW4 Hbb4 Hhi4 Hown3 HX3 Hb3 Hw4 HR4
 go_wp2
 go_loopw [5,8] (fun v i wr=>∃ (k:Nat) (ys:List Ac),k≤ml.length∧k≤10∧i=.int .i64 k∧ys.length≤k∧(∀ a ∈ ys,aB6 a=0∧dF1 2 a)∧Gro w.heap.size lo hi4 wr v (zs++ys)∧OcB lo hi4 wr b4 ⟨true,(tn:Int),pd,fo,rl⟩ F4 f4 R4 r4∧hi4≤wr.heap.size∧Below w.heap.size w wr) (fun _ i _=>ml.length - (intOf i).toNat)
 case atStart=>exact⟨0,[],AO,by omega,rfl,zn,(fun a ha=>by cases ha),by rw[List.append_nil];exact HG4.out,HB4.out,Hh4.out,Hb4.out⟩
 case round =>
  obtain⟨k,ys,hk,hk10,rfl,hyl,hyk,hgro,hob,hhi,hbr⟩:=hrel
  obtain⟨wo,rfl⟩:∃ wo:World,wo=wr:=⟨_,rfl⟩
  obtain⟨ns,hns⟩:∃ ns,ns=zs++ys:=⟨_,rfl⟩
  have hnl2:ns.length≤54:=by rw[hns,List.length_append];omega
  rw[← hns] at hgro
  obtain⟨VA2,vc2,rfl⟩:=aP6 hgro.own
  have Hns:=zh hns
  have Hyk:=zh hyk
  have Hgro:=zh hgro
  have Hob:=zh hob
  have Hhi:=zh hhi
  have Hbr:=zh hbr
  clear hyk hgro hob hhi hbr hns HG4 HB4 Hb4 Hh4
  by_cases hlt:k<ml.length∧k<10
  ·obtain⟨hlt,hkn⟩:=hlt
   obtain⟨b,off,rfl,hab,a0,a1,a2,a3,a4,q0,q1,q2,q3,q4⟩:=grs_at (HM.out.below grR_stays Hbr.out) hlt
   have i0':(0:Int)≤(k:Int):=by omega
   have i1':(k:Int)<(ml.length:Int):=by omega
   have i2':(k:Int)<10:=by omega
   generalize ml[k]=g at *
   go_upto_region 7 with (go_at_call 24;(with_reducible refine (cP6 _ g q0 q2 q3 q4).mono ?_);rintro e5 u5 ⟨r,A5,a5,B5,b5,C5,c5,D5,d5,rfl,_,s1,s2,s3,s4,hb5⟩;have S1:=zh s1;have S2:=zh s2;have S3:=zh s3;have S4:=zh s4;have Hb5:=zh hb5;clear s1 s2 s3 s4 hb5)
   have hbx:=aK u5 #[.int .i64 r.kind,.slice A5 r.name.length a5,.slice B5 r.key.length b5,.slice C5 r.last.length c5,.slice D5 r.value.length d5] 51
   obtain⟨wb,hwb⟩:∃ wb,wb=u5.alloc (.cells #[.int .i64 r.kind,.slice A5 r.name.length a5,.slice B5 r.key.length b5,.slice C5 r.last.length c5,.slice D5 r.value.length d5] 51):=⟨_,rfl⟩
   have hwu:Below wo.heap.size wo wb:=by rw[hwb];exact Hb5.out.alloc Hb5.out.size _
   have T1:=zh (show Bs (aB wo.heap.size) wb A5 r.name by rw[hwb];exact S1.out.bbelow ((Below.refl _ _).alloc zn _))
   have T2:=zh (show Bs (aB wo.heap.size) wb B5 r.key by rw[hwb];exact S2.out.bbelow ((Below.refl _ _).alloc zn _))
   have T3:=zh (show Bs (aB wo.heap.size) wb C5 r.last by rw[hwb];exact S3.out.bbelow ((Below.refl _ _).alloc zn _))
   have T4:=zh (show Bs (aB wo.heap.size) wb D5 r.value by rw[hwb];exact S4.out.bbelow ((Below.refl _ _).alloc zn _))
   rw[← hwb] at hbx ⊢
   obtain⟨bx,hbxe⟩:∃ bx,bx=u5.heap.size:=⟨_,rfl⟩
   rw[← hbxe] at hbx ⊢
   have hbl:bx<wb.heap.size:=(Array.getElem?_eq_some_iff.1 hbx).1
   have x0:=aA (cs:=[.int .i64 r.kind,.slice A5 r.name.length a5,.slice B5 r.key.length b5,.slice C5 r.last.length c5,.slice D5 r.value.length d5]) hbx 0
   have x1:=aA (cs:=[.int .i64 r.kind,.slice A5 r.name.length a5,.slice B5 r.key.length b5,.slice C5 r.last.length c5,.slice D5 r.value.length d5]) hbx 1
   have x2:=aA (cs:=[.int .i64 r.kind,.slice A5 r.name.length a5,.slice B5 r.key.length b5,.slice C5 r.last.length c5,.slice D5 r.value.length d5]) hbx 2
   have x3:=aA (cs:=[.int .i64 r.kind,.slice A5 r.name.length a5,.slice B5 r.key.length b5,.slice C5 r.last.length c5,.slice D5 r.value.length d5]) hbx 3
   have x4:=aA (cs:=[.int .i64 r.kind,.slice A5 r.name.length a5,.slice B5 r.key.length b5,.slice C5 r.last.length c5,.slice D5 r.value.length d5]) hbx 4
   simp only[List.getElem?_cons_zero,List.getElem?_cons_succ] at x0 x1 x2 x3 x4
   have Hbw:=zh (Hbr.out.next hwu Hbr.out.size)
   have Hgw:=zh (Hgro.out.below hwu)
   have How:=zh (Hob.out.below hwu)
   have Hhw:=zh (Nat.le_trans Hhi.out hwu.size)
   have Hwu:=zh hwu
   clear hwb hbxe hwu hbx S1 S2 S3 S4 Hb5
   obtain⟨dr,HKr,fr,er,_⟩:=dE4 2 2 rfl AO r
   have HAr:=zh (show r.kind=2∨r.kind=3∨r.kind=8→aB6 ⟨1,((2:Nat):Int),0,dr⟩=0∧dF1 2 ⟨1,((2:Nat):Int),0,dr⟩ from fun h=>⟨fr,rfl,rfl,fun e=>by show (aM2 dr).1.kind=2∨(aM2 dr).1.kind=3∨(aM2 dr).1.kind=8;rw[er e];exact h⟩)
   clear fr er
   by_cases hrd:r.kind=2∨r.kind=3∨r.kind=8
   ·have HQ:=zh (HAr.out hrd)
    have hz:((r.kind==2)=true)∨((r.kind==2)=false∧(r.kind==3)=true)∨((r.kind==2)=false∧(r.kind==3)=false∧(r.kind==8)=true):=by
     simp only[beq_iff_eq,beq_eq_false_iff_ne]
     omega
    clear hrd
    rcases hz with z2|⟨z2,z3⟩|⟨z2,z3,z8⟩
    all_goals
     go_wp2_with (first|(go_at_call 23;(with_reducible refine (HKr.out _ A5 B5 C5 D5 a5 b5 c5 d5 ?hT ?h1 ?h2 ?h3 ?h4).mono ?_);(case hT=>exact HH.out.below Hbw.out);(case h1=>exact T1.out.bz);(case h2=>exact T2.out.bz);(case h3=>exact T3.out.bz);(case h4=>exact T4.out.bz);rintro e6 y6 ⟨A6,c6,rfl,hc6,hs6,hb6⟩;have S6:=zh hs6;have Hy6:=zh hb6;clear hs6 hb6)|(at_builtin;refine wpl_cat acR_stays acR_one (S:=(aB w.heap.size)) _ rfl _ _ _ rfl w.heap.size 49 i0 _ 4 48 Tryz.underlying23 hi0 hz0 hz1 hz2 hz3 (by decide) (.slice VA2 ns.length vc2) ns rfl ?hown _ 1 _ [(⟨1,((2:Nat):Int),0,dr⟩:Ac)] rfl rfl ?hsrc ?h63 ?hby ?hba ?_;(case hown=>exact (Hgw.out.own.below acR_stays Hy6.out).below acR_stays ((Below.refl _ _).alloc zn _));(case hsrc=>exact sl_one _ _ [.int .i64 1,.int .i64 2,.int .i64 0,.slice A6 dr.length c6] _ (aK _ _ _) rfl _ ⟨A6,c6,rfl,hc6,(S6.out.bbelow ((Below.refl _ _).alloc zn _)).bless fun b _ h=>⟨Nat.le_trans Hbw.out.size h,Hgw.out.own.apart _ zn b h⟩⟩ ⟨Nat.le_trans Hbw.out.size Hy6.out.size,Hgw.out.own.apart _ Hy6.out.size _ zn⟩);(case h63=>(simp only[maxLen,List.length_singleton];omega));(case hby=>(simp only[List.length_singleton];omega));(case hba=>exact (Nat.le_trans Hbw.out.size (Nat.le_trans Hy6.out.size (by simp))));intro v8 y8 hown8 hb8 hg8 hat8))
     go_roundw
     case rel=>exact⟨k+1,ys++[⟨1,((2:Nat):Int),0,dr⟩],AO,by omega,by go_num,by simp;omega,(fun a ha=>by
      rcases List.mem_append.1 ha with h|h
      ·exact Hyk.out a h
      ·rw[List.mem_singleton] at h;rw[h];exact HQ.out),by rw[← List.append_assoc,← Hns.out];exact (Hgw.out.below Hy6.out).app hown8 hat8 (Nat.le_trans Hhw.out (Nat.le_trans Hy6.out.size (by simp))) (fun a ha=>by rw[List.mem_singleton] at ha;rw[ha];exact HQ.out.1),((How.out.below Hy6.out).below ((Below.refl _ _).alloc zn _)).same (Hgw.out.same hg8),Nat.le_trans Hhw.out (Nat.le_trans Hy6.out.size (Nat.le_trans (by simp) hg8.size)),((Hbw.out.next Hy6.out Hbw.out.size).alloc (Nat.le_trans Hbw.out.size Hy6.out.size) _).trans hb8⟩
     case measure=>simp[intOf];omega
   ·obtain⟨z2,z3,z8⟩:(r.kind==2)=false∧(r.kind==3)=false∧(r.kind==8)=false:=by
     simp only[beq_eq_false_iff_ne]
     omega
    clear hrd
    go_wp2
    go_roundw
    case rel=>exact⟨k+1,ys,AO,by omega,by go_num,AO,Hyk.out,by rw[← Hns.out];exact Hgw.out,How.out,Hhw.out,Hbw.out⟩
    case measure=>simp[intOf];omega
  ·have hcase:((ml.length:Int)≤(k:Int))∨((k:Int)<(ml.length:Int)∧(10:Int)≤(k:Int)):=by omega
   clear hlt
   obtain⟨p2,rl2,HR12,hr1,q,hq,hqv⟩:∃ (p2:Int) (rl2:List Rp),dA3 (ns++[(⟨1,((2:Nat):Int),0,d6⟩:Ac)]) ⟨true,(tn:Int),p2,fo,rl2⟩∧rl2.length≤100∧∃ k,rl2.length=k+1∧∀ h:k<rl2.length,rl2[k].code=0∧rl2[k].session=2∧rl2[k].turn=(tn:Int):=by
    rw[Hns.out]
    exact HRx.out ys Hyk.out AO
   have Hq:=zh hq
   have Hqv:=zh hqv
   have hbig:fo.length≤big:=by unfold big;omega
   have m1:(q:Int)≤100:=by omega
   have m2:(0:Int)≤(q:Int):=by omega
   clear hq hqv hr1
   rcases hcase with hle|⟨hkl,hle⟩
   all_goals
    go_upto_region 10 with (first|(go_at_call 23;(with_reducible refine (HK6.out _ ?hT).mono ?_);(case hT=>exact HH.out.below Hbr.out);rintro e9 y9 ⟨A9,c9,rfl,hc9,hs9,hb9⟩;have S9:=zh hs9;have Hy9:=zh hb9;clear hs9 hb9)|(at_builtin;refine wpl_cat acR_stays acR_one (S:=(aB w.heap.size)) _ rfl _ _ _ rfl w.heap.size 49 i0 _ 4 48 Tryz.underlying23 hi0 hz0 hz1 hz2 hz3 (by decide) (.slice VA2 ns.length vc2) ns rfl ?hown _ 1 _ [(⟨1,((2:Nat):Int),0,d6⟩:Ac)] rfl rfl ?hsrc ?h63 ?hby ?hba ?_;(case hown=>exact (Hgro.out.own.below acR_stays Hy9.out).below acR_stays ((Below.refl _ _).alloc zn _));(case hsrc=>exact sl_one _ _ [.int .i64 1,.int .i64 2,.int .i64 0,.slice A9 d6.length c9] _ (aK _ _ _) rfl _ ⟨A9,c9,rfl,hc9,(S9.out.bbelow ((Below.refl _ _).alloc zn _)).bless fun b _ h=>⟨Nat.le_trans Hbr.out.size h,Hgro.out.own.apart _ zn b h⟩⟩ ⟨Nat.le_trans Hbr.out.size Hy9.out.size,Hgro.out.own.apart _ Hy9.out.size _ zn⟩);(case h63=>(simp only[maxLen,List.length_singleton];omega));(case hby=>(simp only[List.length_singleton];omega));(case hba=>exact (Nat.le_trans Hbr.out.size (Nat.le_trans Hy9.out.size (by simp))));intro v10 y10 hown10 hb10 hg10 hat10))
    obtain⟨V11,c11,hve11,hvc11,hsl11⟩:=hown10.readc acR_stays
    subst hve11
    have HX11:=zh (hsl11.z acR_stays)
    have HB11:=zh (((Hob.out.below Hy9.out).below ((Below.refl _ _).alloc zn _)).same (Hgro.out.same hg10))
    have Hb11:=zh (((Hbr.out.next Hy9.out Hbr.out.size).alloc (Nat.le_trans Hbr.out.size Hy9.out.size) _).trans hb10)
    clear hown10 hvc11 hsl11 hat10 hg10 hb10 Hgro Hob Hhi Hbr Hy9 S9
    go_upto_region 11 with (go_at_call 16;(with_reducible refine (Hid.out HR12 _ V11 (ns.length+1) c11 (by simp) ?hT ?hH ?ha).mono ?_);(case hT=>exact HT.out.below Hb11.out);(case hH=>exact HH.out.below Hb11.out);(case ha=>exact HX11.out);rintro e12 u12 ⟨F12,f12,R12,r12,W12,b12,hi12,rfl,hW12,hbb12,hhi12,hB12,hw12,hu12,hv12⟩;have HV12:=zh hv12;have HB12:=zh hB12;have Hw12:=zh hw12;have HW12:=zh hW12;have Hbb12:=zh hbb12;have Hhi12:=zh hhi12;clear hB12 hw12 hu12 hv12 hW12 hbb12 hhi12)
    rw[HW12.out,Hbb12.out]
    have hA:=HB11.out.below Hw12.out
    have hB:=HB12.out
    obtain⟨x0,x1,x2,x3,x4⟩:=hA.cells
    obtain⟨y0,y1,y2,y3',y4⟩:=hB.cells
    have lA:=hA.lt
    have lB:=hB.lt
    have FA:=zh (hA.fo.z tenR_stays)
    have FB:=zh (hB.fo.z tenR_stays)
    have HbF:=zh (Hb11.out.next Hw12.out Hb11.out.size)
    obtain⟨rb,roff,V,v,P,p,R,qq,RA,rn,RK,ra,RX,ry,RB,rm,RL,rc,RY,rd,hRe,hrb,hcs,_⟩:=rep_vals (HV12.out.z rpR_stays) (show q<rl2.length by have:=Hq.out;omega)
    subst hRe
    obtain⟨v0,v1,v2⟩:=Hqv.out (by have:=Hq.out;omega)
    dsimp only at x1 x3 y1 y3' y4 FA FB hcs
    generalize rl2[q]'(by have:=Hq.out;omega)=rp at v0 v1 v2 hcs
    unfold dE6 at hcs
    rw[v0,v1,v2] at hcs
    rw[Hq.out] at y4
    have w0:=hcs 0 AO
    have w1:=hcs 1 AO
    have w2:=hcs 2 AO
    have w3:=hcs 3 AO
    have w4:=hcs 4 AO
    have w5:=hcs 5 AO
    have w6:=hcs 6 AO
    have w7:=hcs 7 AO
    have w8:=hcs 8 AO
    have w9:=hcs 9 AO
    have w10:=hcs 10 AO
    have w11:=hcs 11 AO
    have w12:=hcs 12 AO
    have w13:=hcs 13 AO
    have w14:=hcs 14 AO
    simp only[Nat.add_zero,List.getElem?_cons_zero,List.getElem?_cons_succ] at w0 w1 w2 w3 w4 w5 w6 w7 w8 w9 w10 w11 w12 w13 w14
    clear hcs hA hB HB11 HB12 HX11 Hb11 Hw12 HR12 HW12 Hbb12 Hhi12 x0 x2 x4 y0 y2 v0 v1 v2
    go_upto_region 14 with fail
    have hbx:=aK W12 #[.int .i64 2,.int .i64 0,.int .i64 (tn:Int),.bool rp.found,.slice V rp.value.length v,.slice P rp.pairs.length p,.slice R rp.root.length qq,.bool rp.outer.empty,.slice RA rp.outer.steps.length rn,.slice RK rp.outer.pair.1.length ra,.slice RX rp.outer.pair.2.length ry,.bool rp.inner.empty,.slice RB rp.inner.steps.length rm,.slice RL rp.inner.pair.1.length rc,.slice RY rp.inner.pair.2.length rd] 60
    have hwa:=(Below.refl W12.heap.size W12).alloc zn (.cells #[.int .i64 2,.int .i64 0,.int .i64 (tn:Int),.bool rp.found,.slice V rp.value.length v,.slice P rp.pairs.length p,.slice R rp.root.length qq,.bool rp.outer.empty,.slice RA rp.outer.steps.length rn,.slice RK rp.outer.pair.1.length ra,.slice RX rp.outer.pair.2.length ry,.bool rp.inner.empty,.slice RB rp.inner.steps.length rm,.slice RL rp.inner.pair.1.length rc,.slice RY rp.inner.pair.2.length rd] 60)
    have d0:=aA (cs:=[.int .i64 2,.int .i64 0,.int .i64 (tn:Int),.bool rp.found,.slice V rp.value.length v,.slice P rp.pairs.length p,.slice R rp.root.length qq,.bool rp.outer.empty,.slice RA rp.outer.steps.length rn,.slice RK rp.outer.pair.1.length ra,.slice RX rp.outer.pair.2.length ry,.bool rp.inner.empty,.slice RB rp.inner.steps.length rm,.slice RL rp.inner.pair.1.length rc,.slice RY rp.inner.pair.2.length rd]) hbx 0
    have d1:=aA (cs:=[.int .i64 2,.int .i64 0,.int .i64 (tn:Int),.bool rp.found,.slice V rp.value.length v,.slice P rp.pairs.length p,.slice R rp.root.length qq,.bool rp.outer.empty,.slice RA rp.outer.steps.length rn,.slice RK rp.outer.pair.1.length ra,.slice RX rp.outer.pair.2.length ry,.bool rp.inner.empty,.slice RB rp.inner.steps.length rm,.slice RL rp.inner.pair.1.length rc,.slice RY rp.inner.pair.2.length rd]) hbx 1
    have d2:=aA (cs:=[.int .i64 2,.int .i64 0,.int .i64 (tn:Int),.bool rp.found,.slice V rp.value.length v,.slice P rp.pairs.length p,.slice R rp.root.length qq,.bool rp.outer.empty,.slice RA rp.outer.steps.length rn,.slice RK rp.outer.pair.1.length ra,.slice RX rp.outer.pair.2.length ry,.bool rp.inner.empty,.slice RB rp.inner.steps.length rm,.slice RL rp.inner.pair.1.length rc,.slice RY rp.inner.pair.2.length rd]) hbx 2
    have g1:=(hwa.cell (p:=⟨b4,1,none⟩) lA).trans x1
    have g3:=(hwa.cell (p:=⟨b4,3,none⟩) lA).trans x3
    have k1:=(hwa.cell (p:=⟨b12,1,none⟩) lB).trans y1
    have k3:=(hwa.cell (p:=⟨b12,3,none⟩) lB).trans y3'
    simp only[List.getElem?_cons_zero,List.getElem?_cons_succ] at d0 d1 d2
    have FA2:=zh (FA.out.below tenR_stays hwa)
    have FB2:=zh (FB.out.below tenR_stays hwa)
    have HbG:=zh (HbF.out.alloc HbF.out.size (.cells #[.int .i64 2,.int .i64 0,.int .i64 (tn:Int),.bool rp.found,.slice V rp.value.length v,.slice P rp.pairs.length p,.slice R rp.root.length qq,.bool rp.outer.empty,.slice RA rp.outer.steps.length rn,.slice RK rp.outer.pair.1.length ra,.slice RX rp.outer.pair.2.length ry,.bool rp.inner.empty,.slice RB rp.inner.steps.length rm,.slice RL rp.inner.pair.1.length rc,.slice RY rp.inner.pair.2.length rd] 60))
    obtain⟨W14,hW14⟩:∃ W14,W14=W12.alloc (.cells #[.int .i64 2,.int .i64 0,.int .i64 (tn:Int),.bool rp.found,.slice V rp.value.length v,.slice P rp.pairs.length p,.slice R rp.root.length qq,.bool rp.outer.empty,.slice RA rp.outer.steps.length rn,.slice RK rp.outer.pair.1.length ra,.slice RX rp.outer.pair.2.length ry,.bool rp.inner.empty,.slice RB rp.inner.steps.length rm,.slice RL rp.inner.pair.1.length rc,.slice RY rp.inner.pair.2.length rd] 60):=⟨_,rfl⟩
    rw[← hW14] at d0 d1 d2 g1 g3 k1 k3 FA2 FB2 HbG ⊢
    clear hbx hwa hW14 FA FB HbF w0 w1 w2 w3 w4 w5 w6 w7 w8 w9 w10 w11 w12 w13 w14
    go_wp2_with (go_at_call 22;refine (SameForestK_ok _ F4 F12 fo f4 f12 FA2.out FB2.out hbig).mono ?_;rintro e15 u15 ⟨rfl,hb15⟩)
    go_ret
    exact⟨rfl,HbG.out.next hb15 HbG.out.size⟩
theorem dG2 (w:World) (hT:bD w) (hH:bL w) {A:Option Addr} {l:List Gr} {c:Nat} (h:Grs All w A l∧l.length≤big) {M:Option Addr} {ml:List Gr} {mc:Nat} (hM:Grs All w M ml∧ml.length≤big) :
  Calls Tryz.prog 14 #[.slice A l.length c,.slice M ml.length mc] w (bQ w (.bool true)):=dG1 w hT hH A l c M ml mc h.1 h.2 hM.1
end Go.Proofs.YtlhpfgpagggdlaaGreatDoor
