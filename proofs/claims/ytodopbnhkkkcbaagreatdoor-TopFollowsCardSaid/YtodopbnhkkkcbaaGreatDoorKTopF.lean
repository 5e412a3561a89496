/- TopF: Walk: TopFollows. The conditions of each are in its words. -/
import Derived.Test.YtodopbnhkkkcbaaGreatDoorKFolK
namespace Go.Proofs.YtodopbnhkkkcbaaGreatDoor
open Go.RowKit
set_option linter.unusedVariables false
set_option linter.unusedSimpArgs false
set_option maxRecDepth 100000
set_option maxHeartbeats 8000000
theorem dec_said:DecSaid:=fun w P b pc h1 h2 h3=>aE7 w h1 P b pc h2 h3
theorem dQ6 (w:World) (hT:bD w) (hH:bL w) (A:Option Addr) (l:List Gr) (c:Nat) (ha:Grs All w A l) (hl:l.length≤big) :
  Calls Tryz.prog 7 #[.slice A l.length c] w (bQ w (.bool true)):=by
 have HT:=zh hT
 have HH:=zh hH
 have Ha:=zh ha
 clear hT hH ha
 go_enter Tryz.func7,Tryz.ntmps7
 go_upto_region 2 with (go_at_call 10;(with_reducible refine (cX5 _ ?hT A l c 60 60 rfl AO ?ha hl).mono ?_);(case hT=>exact HH.out);(case ha=>exact Ha.out);rintro e1 w1 ⟨xs,v,rfl,hxl,hxs,hown,hb1⟩;obtain⟨VA,vc,rfl,hvc,hacs⟩:=hown.readc acR_stays;have Hxs:=zh hxs;have Hown1:=zh hown;have HX1:=zh hacs;have Hb1:=zh hb1;clear hxs hown hacs hb1)
 have hxl:xs.length≤60:=by omega
 obtain⟨N,M,U,ou,tn,pd,fo,rl,HRa,hF,hN,hM,hU,hrun⟩:=dQ0 Hxs.out hxl
 have HF:=zh hF
 have HN:=zh hN
 have HM:=zh hM
 have HU:=zh hU
 have HRun:=zh hrun
 have HNle:=zh (show ∀ k,k≤xs.length→N k≤60 from fun k hk=>(hF.le k hk).2.1)
 clear hF hN hM hU hrun
 go_upto_region 3 with (go_at_call 12;(with_reducible refine (Hid.out HRa _ VA _ vc rfl ?hT ?hH ?ha).mono ?_);(case hT=>exact HT.out.below Hb1.out);(case hH=>exact HH.out.below Hb1.out);(case ha=>exact (HX1.out.z acR_stays));rintro e2 u2 ⟨F2,f2,R2,r2,W2,b2,hi2,rfl,hW2,hbb2,hhi2,hB2,hw2,hu2,hv2⟩;have HV2:=zh hv2;have HB2:=zh hB2;have Hw2:=zh hw2;have HW2:=zh hW2;have Hbb2:=zh hbb2;have Hhi2:=zh hhi2;clear hB2 hw2 hu2 hv2 hW2 hbb2 hhi2)
 rw[HW2.out,Hbb2.out]
 have HbA:=zh (Hb1.out.next Hw2.out Hb1.out.size)
 have HXA:=zh ((HX1.out.below acR_stays Hw2.out).z acR_stays)
 obtain⟨a0,a1,a2,a3,a4⟩:=HB2.out.cells
 dsimp only at a0 a1 a2 a3 a4
 go_upto_region 4 with (go_at_call 20;(with_reducible refine (dQ5 _ ?hH VA xs vc ou tn pd F2 _ f2 R2 rl r2 N M U dec_said ?hW HF.out ?ha ?hR hxl HN.out HM.out HU.out).mono ?_);(case hH=>exact HH.out.below HbA.out);(case hW=>exact dP9 (HT.out.below HbA.out) (HH.out.below HbA.out) HXA.out hvc hxl HRun.out HNle.out);(case ha=>exact HXA.out);(case hR=>exact HV2.out.z rpR_stays);rintro e3 y3 ⟨v3,rfl,hb3⟩;have Hb3:=zh hb3;clear hb3)
 go_wp2
 go_ret
 exact⟨rfl,HbA.out.next Hb3.out HbA.out.size⟩
theorem dQ7 (w:World) (hT:bD w) (hH:bL w) {A:Option Addr} {l:List Gr} {c:Nat} (h:Grs All w A l∧l.length≤big) :
  Calls Tryz.prog 7 #[.slice A l.length c] w (bQ w (.bool true)):=dQ6 w hT hH A l c h.1 h.2
end Go.Proofs.YtodopbnhkkkcbaaGreatDoor
