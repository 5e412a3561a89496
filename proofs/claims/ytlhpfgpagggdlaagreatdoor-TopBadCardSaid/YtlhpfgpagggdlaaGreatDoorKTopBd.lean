/- TopBd: Walk: TopBad. The conditions of each are in its words. -/
import Derived.Test.YtlhpfgpagggdlaaGreatDoorKTopO
import Derived.Test.YtlhpfgpagggdlaaGreatDoorKTopL
namespace Go.Proofs.YtlhpfgpagggdlaaGreatDoor
open Go.RowKit
set_option linter.unusedVariables false
set_option linter.unusedSimpArgs false
set_option maxRecDepth 100000
set_option maxHeartbeats 8000000
theorem byteR_one:∀ S w cs x,bI0 S w cs x→∀ u ∈ cs,u.oneCell'=true:=by
 rintro S w cs x rfl u hu
 simp at hu
 subst hu
 rfl
theorem bad_ran {xs:List Ac} (hx:∀ a ∈ xs,aB6 a=0) (hl:xs.length≤60) {p:Nat} (hp:p<8) {d:List UInt8} (hd:d.length≤60):∃ (u:Bool) (tn pd:Int) (fo:List Tn) (rl:List Rp),dA3 xs ⟨u,tn,pd,fo,rl⟩∧fo.length≤8∧rl.length≤60∧Hid ((aM2 d).2≠0→∃ (cd:Int) (r2:List Rp),dA3 (xs++[(⟨1,(p:Int),0,d⟩:Ac)]) ⟨u,tn,pd,fo,r2⟩∧r2.length=rl.length+1∧Hid (∀ h:rl.length<r2.length,r2[rl.length].code=cd)∧((u=true∧cd=(aM2 d).2)∨(u=false∧cd=13))):=by
 have h1:∀ a ∈ xs++[(⟨1,(p:Int),0,d⟩:Ac)],aB6 a=0:=fun a ha=>by
  rcases List.mem_append.1 ha with h|h
  ·exact hx a h
  ·rw[List.mem_singleton] at h;rw[h];exact cY8 hp AO
 have ht:=(cZ1 hx).told
 refine⟨(bM xs).up,_,_,_,(bM xs).replies,dA4 hx AO rfl,(bZ6 _ _).len,AO,zh fun he=>⟨if (bM xs).up=false then 13 else (aM2 d).2,_,dA4 h1 (by simp;omega) (bad_out xs p d he),by simp,zh fun h=>?_,?_⟩⟩
 ·show ((bM xs).replies++[_])[(bM xs).replies.length].code=_
  rw[List.getElem_append_right zn]
  simp[aE4]
 ·cases h:(bM xs).up
  ·exact .inr ⟨rfl,by rw[if_pos rfl]⟩
  ·exact .inl ⟨rfl,by rw[if_neg (by simp)]⟩
theorem dC2 (w:World) (hT:bD w) (hH:bL w) (A:Option Addr) (l:List Gr) (c:Nat) (M:Option Addr) (dl:List UInt8) (mc:Nat) (n:Int) (ha:Grs All w A l) (hl:l.length≤big) (hM:Bs All w M dl) (hml:dl.length≤big) (hmc:dl.length≤mc) (hn:aS3 n) :
  Calls Tryz.prog 12 #[.slice A l.length c,.slice M dl.length mc,.int .i64 n] w (bQ w (.bool true)):=by
 have HT:=zh hT
 have HH:=zh hH
 have Ha:=zh ha
 have HM:=zh hM
 obtain⟨p,⟨hp0,hp4⟩,HP⟩:=aJ7 n 8 8 rfl AO AO hn
 obtain⟨pn,rfl⟩:=Int.eq_ofNat_of_zero_le hp0
 obtain⟨i0,z0,hi0,hz0,hz1,hz2,hz3⟩:=ac_parts
 obtain⟨i8,h80,h81,h82,h83⟩:=info_parts info_u8
 clear hT hH ha hM hp0
 go_enter Tryz.func12,Tryz.ntmps12
 go_upto_region 2 with (go_at_call 15;(with_reducible refine (cX5 _ ?hT A l c 40 40 rfl AO ?ha hl).mono ?_);(case hT=>exact HH.out);(case ha=>exact Ha.out);rintro e1 w1 ⟨xs,v,rfl,hxl,hxs,hown,hb1⟩;obtain⟨VA,vc,rfl,hvc,hacs⟩:=hown.readc acR_stays;have Hxs:=zh hxs;have Hown1:=zh hown;have HX1:=zh hacs;have Hb1:=zh hb1;clear hxs hown hacs hb1)
 obtain⟨dd,hdd⟩:∃ dd,dd=dl.take 60:=⟨_,rfl⟩
 have hdl:dd.length≤60:=by rw[hdd,List.length_take];omega
 have hdm:dd.length=min dl.length 60:=by rw[hdd,List.length_take,Nat.min_comm]
 obtain⟨u,tn,pd,fo,rl,HR2,hfo,hrl,HBad⟩:=bad_ran Hxs.out AO (p:=pn) AO hdl
 have HD0:=zh (show Bs All w M dd by rw[hdd];exact cZ4 HM.out 60)
 clear hdd
 go_upto_region 3 with (go_at_call 16;(with_reducible refine (Hid.out HR2 _ VA _ vc rfl ?hT ?hH ?ha).mono ?_);(case hT=>exact HT.out.below Hb1.out);(case hH=>exact HH.out.below Hb1.out);(case ha=>exact (HX1.out.z acR_stays));rintro e2 u2 ⟨F2,f2,R2,r2,W2,b2,hi2,rfl,hW2,hbb2,hhi2,hB2,hw2,hu2⟩;have HB2:=zh hB2;have Hw2:=zh hw2;have HW2:=zh hW2;have Hbb2:=zh hbb2;have Hhi2:=zh hhi2;clear hB2 hw2 hu2 hW2 hbb2 hhi2)
 rw[HW2.out,Hbb2.out]
 have Hb2:=zh (Hb1.out.next Hw2.out Hb1.out.size)
 have HY2:=zh (HX1.out.below acR_stays Hw2.out)
 have HD2:=zh (HD0.out.bbelow Hb2.out)
 clear HW2 Hbb2 Hhi2 HX1 Hown1 Hb1 HD0 HR2
 have hmin:min (dl.length:Int) 60=(dd.length:Int):=by rw[hdm];omega
 have m1:(dd.length:Int)≤(mc:Int):=by omega
 have m0:(0:Int)≤(dd.length:Int):=by omega
 clear hdm
 go_upto_region 4 with (at_builtin;refine wpl_cat byteR_stays byteR_one (S:=All) _ rfl _ _ _ rfl W2.heap.size 5 i8 _ 1 1 Tryz.underlying47 h80 h81 h82 h83 rfl (by decide) (.slice none 0 0) [] rfl ?hown _ _ _ dd (by first|rfl|omega) rfl ?hsrc ?h63 ?hby ?hba ?_;(case hown=>exact Own.nil _ _ _);(case hsrc=>exact HD2.out.bless fun b _ _=>⟨trivial,nofun⟩);(case h63=>(simp only[maxLen,List.length_nil];omega));(case hby=>(simp only[List.length_nil];omega));(case hba=>exact zn);intro v3 y3 hown3 hb3 hg3 hat3)
 rw[List.nil_append] at hown3
 obtain⟨V3,c3,hve3,hvc3,hsl3⟩:=hown3.slices byteR_stays
 subst hve3
 have HD3:=zh (show Bs (fun b=>b<y3.heap.size) y3 V3 dd from hsl3.bless fun b hb _=>hb)
 have Hown3:=zh hown3
 have HY3:=zh (HY2.out.below acR_stays hb3)
 have HB3:=zh (HB2.out.below hb3)
 have Hb3:=zh (Hb2.out.next hb3 Hb2.out.size)
 obtain⟨rq,er,hrq⟩:∃ rq er,aM2 dd=(rq,er):=⟨_,_,rfl⟩
 have HDec:=zh (aE7 y3 (HH.out.below Hb3.out) V3 dd c3 HD3.out.bz hvc3)
 rw[hrq] at HDec HBad
 clear hown3 hsl3 hb3 hg3 hat3 HY2 HB2 Hb2 HD2 hmin hrq HM
 go_upto_region 5 with (go_at_call 27;(with_reducible refine HDec.out.mono ?_);rintro e5 u5 ⟨A5,a5,B5,q5,C5,c5,D5,d5,rfl,_,_,_,_,hb5⟩;have Hb5:=zh hb5;clear hb5)
 obtain⟨W5,hW5⟩:∃ W5,W5=u5.alloc (.cells #[.int .i64 rq.kind,.slice A5 rq.name.length a5,.slice B5 rq.key.length q5,.slice C5 rq.last.length c5,.slice D5 rq.value.length d5] 51):=⟨_,rfl⟩
 have hw5:Below y3.heap.size y3 W5:=by rw[hW5];exact Hb5.out.alloc Hb5.out.size _
 rw[← hW5]
 have HY5:=zh (HY3.out.below acR_stays hw5)
 have HB5:=zh (HB3.out.below hw5)
 have HD5:=zh ((HD3.out.bbelow hw5).bless (S':=fun b=>b<W5.heap.size) fun b hb _=>hb)
 have HbW:=zh (Hb3.out.next hw5 Hb3.out.size)
 clear hW5 hw5 HY3 HB3 HD3 Hb3 Hb5 HDec
 by_cases he:er=0
 ·subst he
  go_wp2
  go_ret
  exact⟨rfl,HbW.out⟩
 ·have he1:(er==0)=false:=by simpa using he
  obtain⟨cd,r2,HR9,hr2,HC,hcase⟩:=HBad.out he
  have HCa:=zh hcase
  have Hr2:=zh hr2
  clear hcase hr2
  go_upto_region 8 with (first|(go_at_call 25;(with_reducible refine (HP.out _).mono ?_);rintro e wz ⟨rfl,hwz⟩;have hwz:=hwz.symm;subst hwz)|(at_builtin;refine wpl_cat acR_stays acR_one (S:=All) _ rfl _ _ _ rfl W5.heap.size 49 i0 _ 4 48 Tryz.underlying23 hi0 hz0 hz1 hz2 hz3 (by decide) (.slice none 0 0) [] rfl ?hown VA xs.length vc xs rfl rfl ?hsrc ?h63 ?hby ?hba ?_;(case hown=>exact Own.nil _ _ _);(case hsrc=>exact (HY5.out).less acR_stays fun b _ _=>⟨trivial,nofun⟩);(case h63=>(simp only[maxLen,List.length_nil];omega));(case hby=>(simp only[List.length_nil];omega));(case hba=>exact zn);intro v7 y7 hown7 hb7 hg7 hat7;rw[List.nil_append] at hown7;obtain⟨V7,c7,rfl⟩:=aP6 hown7;have Hown7:=zh hown7;have Hb7:=zh hb7;clear hown7 hb7 hg7 hat7)|(at_builtin;refine wpl_cat acR_stays acR_one (S:=All) _ rfl _ _ _ rfl W5.heap.size 49 i0 _ 4 48 Tryz.underlying23 hi0 hz0 hz1 hz2 hz3 (by decide) (.slice V7 xs.length c7) xs rfl ?hown _ 1 _ [(⟨1,(pn:Int),0,dd⟩:Ac)] rfl rfl ?hsrc ?h63 ?hby ?hba ?_;(case hown=>exact Hown7.out.below acR_stays ((Below.refl _ _).alloc zn _));(case hsrc=>exact sl_one _ _ [.int .i64 1,.int .i64 (pn:Int),.int .i64 0,.slice V3 dd.length c3] _ (aK _ _ _) rfl _ ⟨V3,c3,rfl,hvc3,((HD5.out.bbelow Hb7.out).bbelow ((Below.refl _ _).alloc zn _)).bless fun b _ hb=>⟨trivial,fun hv=>absurd (Hown7.out.lts hv).1 (Nat.not_le.2 hb)⟩⟩ ⟨trivial,Hown7.out.apart _ zn _ zn⟩);(case h63=>(simp only[maxLen,List.length_cons,List.length_nil];omega));(case hby=>(simp only[List.length_cons,List.length_nil];omega));(case hba=>exact (Hb7.out.alloc Hb7.out.size _).size);intro v8 y8 hown8 hb8 hg8 hat8;obtain⟨V8,c8,hve8,hvc8,hsl8⟩:=hown8.slices acR_stays;subst hve8;have HX8:=zh (hsl8.z acR_stays);have Hb8:=zh ((Hb7.out.alloc Hb7.out.size _).trans hb8);clear hown8 hsl8 hvc8 hb8 hg8 hat8)|(go_at_call 16;(with_reducible refine (Hid.out HR9 _ V8 (xs.length+1) c8 (by simp) ?hT ?hH ?ha).mono ?_);(case hT=>exact HT.out.below (HbW.out.next Hb8.out HbW.out.size));(case hH=>exact HH.out.below (HbW.out.next Hb8.out HbW.out.size));(case ha=>exact HX8.out);rintro e9 u9 ⟨F9,f9,R9,r9,W9,b9,hi9,rfl,hW9,hbb9,hhi9,hB9,hw9,hu9⟩;have HB9:=zh hB9;have Hw9:=zh hw9;have HW9:=zh hW9;have Hbb9:=zh hbb9;have Hhi9:=zh hhi9;clear hB9 hw9 hu9 hW9 hbb9 hhi9))
  rw[HW9.out,Hbb9.out]
  have hA:=(HB5.out.below Hb8.out).below Hw9.out
  have hB:=HB9.out
  obtain⟨x0,x1,x2,x3,x4⟩:=hA.cells
  obtain⟨y0,y1,y2,y3',y4⟩:=hB.cells
  have lA:=hA.lt
  have lB:=hB.lt
  have FA:=zh (hA.fo.z tenR_stays)
  have FB:=zh (hB.fo.z tenR_stays)
  have HRe:=zh (hB.re.z rpB_stays)
  have HbF:=zh ((HbW.out.next Hb8.out HbW.out.size).next Hw9.out (HbW.out.next Hb8.out HbW.out.size).size)
  dsimp only at x0 x1 x2 x3 x4 y1 y2 y3' y4 HRe FA FB
  obtain⟨rb,roff,rfl,hrlt,_,r1,_,_⟩:=rep_at HRe.out (show rl.length<r2.length by have:=Hr2.out;omega)
  rw[HC.out (by have:=Hr2.out;omega)] at r1
  have hbig:fo.length≤big:=by unfold big;omega
  have k1:((r2.length:Int) != (rl.length:Int)+1)=false:=by have:=Hr2.out;simp;omega
  have k2:(rl.length:Int)<(r2.length:Int):=by have:=Hr2.out;omega
  have k3:(0:Int)≤(rl.length:Int):=by omega
  have k4:(rl.length:Int)≤60:=by omega
  clear hA hB HB5 HB9 HbW Hb8 Hw9 HR9 HW9 Hbb9 Hhi9 y0 HX8 HD5 HY5 Hown7 Hb7 HRe HC HBad
  rcases HCa.out with ⟨hu,hc⟩|⟨hu,hc⟩
  ·subst hu hc
   go_wp2_with (go_at_call 22;refine (SameForestK_ok _ F2 F9 fo f2 f9 FA.out FB.out hbig).mono ?_;rintro e10 u10 ⟨rfl,hb10⟩;have d0:=(hb10.cell (p:=⟨b2,0,none⟩) lA).trans x0;have d4:=(hb10.cell (p:=⟨b2,4,none⟩) lA).trans x4;have g4:=(hb10.cell (p:=⟨b9,4,none⟩) lB).trans y4;have g1:=(hb10.cell hrlt).trans r1)
   go_ret
   exact⟨rfl,HbF.out.next hb10 HbF.out.size⟩
  ·subst hu hc
   rcases Bool.eq_false_or_eq_true ((13:Int)==er) with k5|k5
   all_goals
    go_wp2_with (go_at_call 22;refine (SameForestK_ok _ F2 F9 fo f2 f9 FA.out FB.out hbig).mono ?_;rintro e10 u10 ⟨rfl,hb10⟩;have d0:=(hb10.cell (p:=⟨b2,0,none⟩) lA).trans x0;have d4:=(hb10.cell (p:=⟨b2,4,none⟩) lA).trans x4;have g4:=(hb10.cell (p:=⟨b9,4,none⟩) lB).trans y4;have g1:=(hb10.cell hrlt).trans r1)
    go_ret
    exact⟨rfl,HbF.out.next hb10 HbF.out.size⟩
theorem dC3 (w:World) (hT:bD w) (hH:bL w) {A:Option Addr} {l:List Gr} {c:Nat} (h:Grs All w A l∧l.length≤big) {M:Option Addr} {dl:List UInt8} {mc:Nat} (hM:(Bs All w M dl∧dl.length≤big)∧dl.length≤mc) {n:Int} (hn:(Lit.int .i64 n).wf=true) :
  Calls Tryz.prog 12 #[.slice A l.length c,.slice M dl.length mc,.int .i64 n] w (bQ w (.bool true)):=dC2 w hT hH A l c M dl mc n h.1 h.2 hM.1.1 hM.1.2 hM.2 (bounds_i64 hn)
end Go.Proofs.YtlhpfgpagggdlaaGreatDoor
