/- TopDu: Walk: TopDurable. The conditions of each are in its words. -/
import Derived.Test.YtlhpfgpagggdlaaGreatDoorKTopO
import Derived.Test.YtlhpfgpagggdlaaGreatDoorKTopL
import Derived.Test.YtlhpfgpagggdlaaGreatDoorKKeepF
namespace Go.Proofs.YtlhpfgpagggdlaaGreatDoor
open Go.RowKit
set_option linter.unusedVariables false
set_option linter.unusedSimpArgs false
set_option maxRecDepth 100000
set_option maxHeartbeats 8000000
theorem dB0 {xs:List Ac} (hx:∀ a ∈ xs,aB6 a=0) (hl:xs.length≤60) {pn:Nat} (hp:pn≤400):∃ (u:Bool) (sn wn j:Nat) (fo fj:List Tn) (rl:List Rp),dA3 xs ⟨u,sn,wn,fo,rl⟩∧dA3 ((xs++[(⟨4,0,0,[]⟩:Ac)])++[(⟨3,0,0,[]⟩:Ac),⟨4,0,0,[]⟩]) ⟨true,sn,0,fo,rl⟩∧dA3 ((xs++[(⟨4,0,0,[]⟩:Ac)])++[(⟨3,0,(pn:Int),[]⟩:Ac),⟨4,0,0,[]⟩]) ⟨true,j,0,fj,rl⟩∧sn≤j∧j≤sn+wn∧sn+wn≤300∧fo.length≤8:=by
 obtain⟨j0,p1,p2,p3,p4⟩:=durable_out hx (keep:=0)
 obtain⟨j,q1,q2,_,q4⟩:=durable_out hx (keep:=pn)
 rw[p3 rfl] at p4
 have hf:∀ k:Nat,k≤400→∀ a ∈ (xs++[(⟨4,0,0,[]⟩:Ac)])++[(⟨3,0,(k:Int),[]⟩:Ac),⟨4,0,0,[]⟩],aB6 a=0:=fun k hk a ha=>by
  simp only[List.mem_append,List.mem_cons,List.not_mem_nil,or_false] at ha
  rcases ha with (h|rfl)|rfl|rfl
  ·exact hx a h
  ·exact start_fine
  ·exact cO5 AO
  ·exact start_fine
 exact⟨_,_,_,j,_,_,_,dA4 hx AO rfl,dA4 (hf 0 AO) (by simp;omega) p4,dA4 (hf pn hp) (by simp;omega) q4,q1,q2,by have:=(cZ1 hx).many;have:=(cZ1 hx).wait;omega,(bZ6 _ _).len⟩
theorem dB1 (w:World) (hT:bD w) (hH:bL w) (A:Option Addr) (l:List Gr) (c:Nat) (n:Int) (ha:Grs All w A l) (hl:l.length≤big) (hn:aS3 n) :
  Calls Tryz.prog 7 #[.slice A l.length c,.int .i64 n] w (bQ w (.bool true)):=by
 have HT:=zh hT
 have HH:=zh hH
 have Ha:=zh ha
 obtain⟨p,⟨hp0,hp4⟩,HP⟩:=aJ7 n 400 400 rfl AO AO hn
 obtain⟨pn,rfl⟩:=Int.eq_ofNat_of_zero_le hp0
 obtain⟨i0,z0,hi0,hz0,hz1,hz2,hz3⟩:=ac_parts
 clear hT hH ha hp0
 go_enter Tryz.func7,Tryz.ntmps7
 go_upto_region 2 with (go_at_call 15;(with_reducible refine (cX5 _ ?hT A l c 60 60 rfl AO ?ha hl).mono ?_);(case hT=>exact HH.out);(case ha=>exact Ha.out);rintro e1 w1 ⟨xs,v,rfl,hxl,hxs,hown,hb1⟩;obtain⟨VA,vc,rfl,hvc,hacs⟩:=hown.readc acR_stays;have Hxs:=zh hxs;have Hown1:=zh hown;have HX1:=zh hacs;have Hb1:=zh hb1;clear hxs hown hacs hb1)
 obtain⟨u,sn,wn,j,fo,fj,rl,HRa,HRb,HRc,hj1,hj2,hj3,hfo⟩:∃ (u:Bool) (sn wn j:Nat) (fo fj:List Tn) (rl:List Rp),dA3 xs ⟨u,sn,wn,fo,rl⟩∧dA3 ((xs++[(⟨4,0,0,[]⟩:Ac)])++[(⟨3,0,0,[]⟩:Ac),⟨4,0,0,[]⟩]) ⟨true,sn,0,fo,rl⟩∧dA3 ((xs++[(⟨4,0,0,[]⟩:Ac)])++[(⟨3,0,(pn:Int),[]⟩:Ac),⟨4,0,0,[]⟩]) ⟨true,j,0,fj,rl⟩∧sn≤j∧j≤sn+wn∧sn+wn≤300∧fo.length≤8:=dB0 Hxs.out hxl AO
 go_upto_region 3 with (go_at_call 16;(with_reducible refine (Hid.out HRa _ VA _ vc rfl ?hT ?hH ?ha).mono ?_);(case hT=>exact HT.out.below Hb1.out);(case hH=>exact HH.out.below Hb1.out);(case ha=>exact (HX1.out.z acR_stays));rintro e2 u2 ⟨F2,f2,R2,r2,W2,b2,hi2,rfl,hW2,hbb2,hhi2,hB2,hw2,hu2⟩;have HB2:=zh hB2;have Hw2:=zh hw2;have HW2:=zh hW2;have Hbb2:=zh hbb2;have Hhi2:=zh hhi2;clear hB2 hw2 hu2 hW2 hbb2 hhi2)
 rw[HW2.out,Hbb2.out]
 have Hb2:=zh (Hb1.out.next Hw2.out Hb1.out.size)
 have Hown2:=zh (Hown1.out.below acR_stays Hw2.out)
 go_upto_region 4 with (at_builtin;refine wpl_cat acR_stays acR_one (S:=(aB w.heap.size)) _ rfl _ _ _ rfl w.heap.size 49 i0 _ 4 48 Tryz.underlying23 hi0 hz0 hz1 hz2 hz3 (by decide) (.slice VA xs.length vc) xs rfl ?hown _ 1 _ [(⟨4,0,0,[]⟩:Ac)] rfl rfl ?hsrc ?h63 ?hby ?hba ?_;(case hown=>exact Hown2.out.below acR_stays ((Below.refl _ _).alloc zn _));(case hsrc=>exact sl_one _ _ [.int .i64 4,.int .i64 0,.int .i64 0,.slice none 0 0] _ (aK _ _ _) rfl _ ⟨none,0,rfl,zn,SL.nil⟩ ⟨Hb2.out.size,Hown2.out.apart _ zn _ zn⟩);(case h63=>(simp only[maxLen,List.length_singleton];omega));(case hby=>(simp only[List.length_singleton];omega));(case hba=>exact (Hb2.out.alloc Hb2.out.size _).size);intro v3 y3 hown3 hb3 hg3 hat3)
 obtain⟨V3,c3,hve3,hvc3,hsl3⟩:=hown3.slices acR_stays
 subst hve3
 obtain⟨ys,hys⟩:∃ ys,ys=xs++[(⟨4,0,0,[]⟩:Ac)]:=⟨_,rfl⟩
 have hyl:ys.length≤61:=by rw[hys,List.length_append,List.length_singleton];omega
 rw[← hys] at hsl3 HRb HRc ⊢
 have HY3:=zh (hsl3.z acR_stays)
 have HB3:=zh (HB2.out.same (aC.grown ((aC.refl _ _).alloc _) hg3 (fun k hk hb=>Hown1.out.apart _ zn k hb.1 hk)))
 have Hb3:=zh ((Hb2.out.alloc Hb2.out.size _).trans hb3)
 clear hown3 hb3 hg3 hat3 hsl3 hvc3 hys HB2 Hown1 Hown2 Hb2
 go_upto_region 5 with (first|(at_builtin;refine wpl_cat acR_stays acR_one (S:=All) _ rfl _ _ _ rfl y3.heap.size 49 i0 _ 4 48 Tryz.underlying23 hi0 hz0 hz1 hz2 hz3 (by decide) (.slice none 0 0) [] rfl ?hown V3 ys.length c3 ys rfl rfl ?hsrc ?h63 ?hby ?hba ?_;(case hown=>exact Own.nil _ _ _);(case hsrc=>exact (HY3.out).less acR_stays fun b _ _=>⟨trivial,nofun⟩);(case h63=>(simp only[maxLen,List.length_nil];omega));(case hby=>(simp only[List.length_nil];omega));(case hba=>exact zn);intro v4 y4 hown4 hb4 hg4 hat4;rw[List.nil_append] at hown4;obtain⟨V4,c4,rfl⟩:=aP6 hown4;have Hown4:=zh hown4;have Hb4:=zh hb4;clear hown4 hb4 hg4 hat4)|(at_builtin;refine wpl_cat acR_stays acR_one (S:=All) _ rfl _ _ _ rfl y3.heap.size 49 i0 _ 4 48 Tryz.underlying23 hi0 hz0 hz1 hz2 hz3 (by decide) (.slice V4 ys.length c4) ys rfl ?hown _ 2 _ [(⟨3,0,0,[]⟩:Ac),⟨4,0,0,[]⟩] rfl rfl ?hsrc ?h63 ?hby ?hba ?_;(case hown=>exact Hown4.out.below acR_stays ((Below.refl _ _).alloc zn _));(case hsrc=>exact sl_two _ _ [.int .i64 3,.int .i64 0,.int .i64 0,.slice none 0 0] [.int .i64 4,.int .i64 0,.int .i64 0,.slice none 0 0] _ (aK _ _ _) rfl rfl _ _ ⟨none,0,rfl,zn,SL.nil⟩ ⟨none,0,rfl,zn,SL.nil⟩ ⟨trivial,Hown4.out.apart _ zn _ zn⟩);(case h63=>(simp only[maxLen,List.length_cons,List.length_nil];omega));(case hby=>(simp only[List.length_cons,List.length_nil];omega));(case hba=>exact (Hb4.out.alloc Hb4.out.size _).size);intro v5 y5 hown5 hb5 hg5 hat5;obtain⟨V5,c5,hve5,hvc5,hsl5⟩:=hown5.slices acR_stays;subst hve5;have HX5:=zh (hsl5.z acR_stays);have Hb5:=zh ((Hb4.out.alloc Hb4.out.size _).trans hb5);clear hown5 hsl5 hvc5 hb5 hg5 hat5)|(go_at_call 16;(with_reducible refine (Hid.out HRb _ V5 (ys.length+2) c5 (by simp) ?hT ?hH ?ha).mono ?_);(case hT=>exact HT.out.below (Hb3.out.next Hb5.out Hb3.out.size));(case hH=>exact HH.out.below (Hb3.out.next Hb5.out Hb3.out.size));(case ha=>exact HX5.out);rintro e6 u6 ⟨F6,f6,R6,r6,W6,b6,hi6,rfl,hW6,hbb6,hhi6,hB6,hw6,hu6⟩;have HB6:=zh hB6;have Hw6:=zh hw6;have HW6:=zh hW6;have Hbb6:=zh hbb6;have Hhi6:=zh hhi6;clear hB6 hw6 hu6 hW6 hbb6 hhi6))
 rw[HW6.out,Hbb6.out]
 have HY6:=zh ((HY3.out.below acR_stays Hb5.out).below acR_stays Hw6.out)
 have HB6b:=zh ((HB3.out.below Hb5.out).below Hw6.out)
 have Hb6:=zh ((Hb3.out.next Hb5.out Hb3.out.size).next Hw6.out (Hb3.out.next Hb5.out Hb3.out.size).size)
 clear HY3 HB3 Hb3 Hb4 Hb5 Hown4 HX5
 go_upto_region 6 with (first|(go_at_call 25;(with_reducible refine (HP.out _).mono ?_);rintro e wz ⟨rfl,hwz⟩;have hwz:=hwz.symm;subst hwz)|(at_builtin;refine wpl_cat acR_stays acR_one (S:=All) _ rfl _ _ _ rfl W6.heap.size 49 i0 _ 4 48 Tryz.underlying23 hi0 hz0 hz1 hz2 hz3 (by decide) (.slice none 0 0) [] rfl ?hown V3 ys.length c3 ys rfl rfl ?hsrc ?h63 ?hby ?hba ?_;(case hown=>exact Own.nil _ _ _);(case hsrc=>exact (HY6.out).less acR_stays fun b _ _=>⟨trivial,nofun⟩);(case h63=>(simp only[maxLen,List.length_nil];omega));(case hby=>(simp only[List.length_nil];omega));(case hba=>exact zn);intro v7 y7 hown7 hb7 hg7 hat7;rw[List.nil_append] at hown7;obtain⟨V7,c7,rfl⟩:=aP6 hown7;have Hown7:=zh hown7;have Hb7:=zh hb7;clear hown7 hb7 hg7 hat7)|(at_builtin;refine wpl_cat acR_stays acR_one (S:=All) _ rfl _ _ _ rfl W6.heap.size 49 i0 _ 4 48 Tryz.underlying23 hi0 hz0 hz1 hz2 hz3 (by decide) (.slice V7 ys.length c7) ys rfl ?hown _ 2 _ [(⟨3,0,(pn:Int),[]⟩:Ac),⟨4,0,0,[]⟩] rfl rfl ?hsrc ?h63 ?hby ?hba ?_;(case hown=>exact Hown7.out.below acR_stays ((Below.refl _ _).alloc zn _));(case hsrc=>exact sl_two _ _ [.int .i64 3,.int .i64 0,.int .i64 (pn:Int),.slice none 0 0] [.int .i64 4,.int .i64 0,.int .i64 0,.slice none 0 0] _ (aK _ _ _) rfl rfl _ _ ⟨none,0,rfl,zn,SL.nil⟩ ⟨none,0,rfl,zn,SL.nil⟩ ⟨trivial,Hown7.out.apart _ zn _ zn⟩);(case h63=>(simp only[maxLen,List.length_cons,List.length_nil];omega));(case hby=>(simp only[List.length_cons,List.length_nil];omega));(case hba=>exact (Hb7.out.alloc Hb7.out.size _).size);intro v8 y8 hown8 hb8 hg8 hat8;obtain⟨V8,c8,hve8,hvc8,hsl8⟩:=hown8.slices acR_stays;subst hve8;have HX8:=zh (hsl8.z acR_stays);have Hb8:=zh ((Hb7.out.alloc Hb7.out.size _).trans hb8);clear hown8 hsl8 hvc8 hb8 hg8 hat8)|(go_at_call 16;(with_reducible refine (Hid.out HRc _ V8 (ys.length+2) c8 (by simp) ?hT ?hH ?ha).mono ?_);(case hT=>exact HT.out.below (Hb6.out.next Hb8.out Hb6.out.size));(case hH=>exact HH.out.below (Hb6.out.next Hb8.out Hb6.out.size));(case ha=>exact HX8.out);rintro e9 u9 ⟨F9,f9,R9,r9,W9,b9,hi9,rfl,hW9,hbb9,hhi9,hB9,hw9,hu9⟩;have HB9:=zh hB9;have Hw9:=zh hw9;have HW9:=zh hW9;have Hbb9:=zh hbb9;have Hhi9:=zh hhi9;clear hB9 hw9 hu9 hW9 hbb9 hhi9))
 rw[HW9.out,Hbb9.out]
 have hA:=(HB6b.out.below Hb8.out).below Hw9.out
 have hB:=(HB6.out.below Hb8.out).below Hw9.out
 have hC:=HB9.out
 obtain⟨a0,a1,a2,a3,a4⟩:=hA.cells
 obtain⟨b0,b1,b2',b3,b4⟩:=hB.cells
 obtain⟨c0,c1,c2,c3',c4⟩:=hC.cells
 have la:=hA.lt
 have lb:=hB.lt
 have lc:=hC.lt
 have FA:=zh (hA.fo.z tenR_stays)
 have FB:=zh (hB.fo.z tenR_stays)
 have HbF:=zh ((Hb6.out.next Hb8.out Hb6.out.size).next Hw9.out (Hb6.out.next Hb8.out Hb6.out.size).size)
 have hbig:fo.length≤big:=by unfold big;omega
 have k1:(sn:Int)≤(j:Int):=by omega
 have k2:(j:Int)≤(sn:Int)+(wn:Int):=by omega
 have k3:(sn:Int)+(wn:Int)≤300:=by omega
 have k4:(0:Int)≤(sn:Int):=by omega
 have k5:(0:Int)≤(wn:Int):=by omega
 dsimp only at a1 a2 a3 a4 b0 b1 b2' b3 b4 c1 c4
 clear hA hB hC HB6b HB6 HB9 HY6 Hb6 Hb8 Hw9 Hown7 Hb7 HX8 HW9 Hbb9 Hhi9 a0 b4 c0 c2 c3' HRa HRb HRc
 go_wp2_with ((go_at_call 22;refine (SameForestK_ok _ F2 F6 fo f2 f6 FA.out FB.out hbig).mono ?_;rintro e10 u10 ⟨rfl,hb10⟩;have d0:=(hb10.cell (p:=⟨b2,1,none⟩) la).trans a1;have d1:=(hb10.cell (p:=⟨b2,2,none⟩) la).trans a2;have d2:=(hb10.cell (p:=⟨b2,4,none⟩) la).trans a4;have d3:=(hb10.cell (p:=⟨b6,0,none⟩) lb).trans b0;have d4:=(hb10.cell (p:=⟨b6,2,none⟩) lb).trans b2';have d5:=(hb10.cell (p:=⟨b9,1,none⟩) lc).trans c1;have d6:=(hb10.cell (p:=⟨b9,4,none⟩) lc).trans c4))
 go_ret
 exact⟨rfl,HbF.out.next hb10 HbF.out.size⟩
theorem dB2 (w:World) (hT:bD w) (hH:bL w) {A:Option Addr} {l:List Gr} {c:Nat} (h:Grs All w A l∧l.length≤big) {n:Int} (hn:(Lit.int .i64 n).wf=true) :
  Calls Tryz.prog 7 #[.slice A l.length c,.int .i64 n] w (bQ w (.bool true)):=dB1 w hT hH A l c n h.1 h.2 (bounds_i64 hn)
end Go.Proofs.YtlhpfgpagggdlaaGreatDoor
