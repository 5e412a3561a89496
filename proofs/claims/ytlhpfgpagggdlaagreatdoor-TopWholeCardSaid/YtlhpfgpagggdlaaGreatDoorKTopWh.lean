/- TopWh: Walks: calm, TopWhole. The conditions of each are in its words. -/
import Derived.Test.YtlhpfgpagggdlaaGreatDoorKTopO
import Derived.Test.YtlhpfgpagggdlaaGreatDoorKTopL
import Derived.Test.YtlhpfgpagggdlaaGreatDoorKKeepF
namespace Go.Proofs.YtlhpfgpagggdlaaGreatDoor
open Go.RowKit
set_option linter.unusedVariables false
set_option linter.unusedSimpArgs false
set_option maxRecDepth 100000
set_option maxHeartbeats 8000000
def dB3 (l:List Ac):List Ac:=l.filter fun a=>decide (a.kind≠3)
theorem calm_at (l:List Ac) {k:Nat} (h:k<l.length):dB3 (l.take (k+1))=if l[k].kind=3 then dB3 (l.take k) else dB3 (l.take k)++[l[k]]:=by
 unfold dB3
 rw[aC8 l k h,List.filter_append]
 by_cases e:l[k].kind=3 <;> simp[e]
theorem dB4 (l:List Ac):(dB3 l).length≤l.length:=List.length_filter_le _ _
theorem dB5 {l:List Ac} {a:Ac} (h:a ∈ dB3 l):a ∈ l∧a.kind≠3:=by
 have h':=List.mem_filter.1 h
 exact⟨h'.1,by simpa using h'.2⟩
def RetRow (w:World) (l:List Ac) (e:Ending) (w':World):Prop:=∃ v,e=.returned v∧Own 4 AcR All w' w.heap.size 49 v l∧Below w.heap.size w w'
theorem calm_ok (w:World) (A:Option Addr) (l:List Ac) (c:Nat) (ha:Acs All w A l) (hn:l.length≤1000) :
  Calls Tryz.prog 19 #[.slice A l.length c] w (RetRow w (dB3 l)):=by
 have Ha:=zh (ha.less acR_stays (S':=fun b=>b<w.heap.size) fun b hb _=>hb)
 obtain⟨i0,z0,hi0,hz0,hz1,hz2,hz3⟩:=ac_parts
 clear ha
 go_enter Tryz.func19,Tryz.ntmps19
 go_wp2
 go_loopw [3,4] (fun v i wr=>∃ k:Nat,k≤l.length∧i=.int .i64 k∧Own 4 AcR All wr w.heap.size 49 v (dB3 (l.take k))∧Below w.heap.size w wr) (fun _ i _=>l.length - (intOf i).toNat)
 case atStart=>exact⟨0,AO,rfl,Own.nil _ _ _,Below.refl _ _⟩
 case round =>
  obtain⟨k,hk,rfl,hown,hbr⟩:=hrel
  have Hbr:=zh hbr
  have hzl:(dB3 (l.take k)).length≤1000:=by have:=dB4 (l.take k);rw[List.length_take] at this;omega
  by_cases hlt:k<l.length
  ·have Hnx:=zh (calm_at l hlt)
   generalize dB3 (l.take k)=zs at *
   obtain⟨VA,vc,rfl⟩:=aP6 hown
   have Hown:=zh hown
   obtain⟨b,off,D,d,rfl,hab,a0,a1,a2,a3,hdd,hDs⟩:=cO9 (Ha.out.same acR_stays (aC.of_below hbr)) hlt
   have i0':(0:Int)≤(k:Int):=by omega
   have i1':(k:Int)<(l.length:Int):=by omega
   have HDs:=zh hDs
   clear hown hbr hDs
   generalize l[k]=x at *
   by_cases h3:x.kind=3
   ·have b1:(x.kind != 3)=false:=by simp[h3]
    go_wp2
    go_roundw
    case rel=>exact⟨k+1,AO,by go_num,by rw[Hnx.out,if_pos h3];exact Hown.out,Hbr.out⟩
    case measure=>simp[intOf];omega
   ·have b1:(x.kind != 3)=true:=by simpa using h3
    go_wp2_with (at_builtin;refine wpl_cat acR_stays acR_one (S:=All) _ rfl _ _ _ rfl w.heap.size 49 i0 _ 4 48 Tryz.underlying23 hi0 hz0 hz1 hz2 hz3 (by decide) (.slice VA zs.length vc) zs rfl ?hown _ 1 _ [x] rfl rfl ?hsrc ?h63 ?hby ?hba ?_;(case hown=>exact Hown.out.below acR_stays ((Below.refl _ _).alloc zn _));(case hsrc=>exact sl_one _ _ [.int .i64 x.kind,.int .i64 x.session,.int .i64 x.keep,.slice D x.data.length d] _ (aK _ _ _) rfl _ ⟨D,d,rfl,hdd,(HDs.out.bbelow ((Below.refl _ _).alloc zn _)).bless fun b _ hb=>⟨trivial,fun hv=>absurd (Hown.out.lts hv).1 (Nat.not_le.2 hb)⟩⟩ ⟨trivial,Hown.out.apart _ zn _ zn⟩);(case h63=>(simp only[maxLen,List.length_singleton];omega));(case hby=>(simp only[List.length_singleton];omega));(case hba=>exact (Hbr.out.alloc Hbr.out.size _).size);intro v3 y3 hown3 hb3 hg3 hat3)
    go_roundw
    case rel=>exact⟨k+1,AO,by go_num,by rw[Hnx.out,if_neg h3];exact hown3,(Hbr.out.alloc Hbr.out.size _).trans hb3⟩
    case measure=>simp[intOf];omega
  ·obtain rfl:k=l.length:=by omega
   rw[List.take_length] at hown
   have i1':(l.length:Int)≤(l.length:Int):=by omega
   have Hown:=zh hown
   clear hown hbr
   go_wp2
   go_ret
   exact⟨_,rfl,Hown.out,Hbr.out⟩
theorem dB6 {cs:List Ac} (hx:∀ a ∈ cs,aB6 a=0) (h3:∀ a ∈ cs,a.kind≠3) (hl:cs.length≤60) {pn:Nat} (hp:pn≤400):∃ (sn j cn:Nat) (up un:Bool) (pp pnd:Int) (fo fj fs:List Tn) (rl rs:List Rp),dA3 (cs++[(⟨3,0,(pn:Int),[]⟩:Ac)]) ⟨false,j,0,fj,rl⟩∧dA3 (cs++[(⟨2,0,0,[]⟩:Ac)]) ⟨up,cn,pp,fs,rs⟩∧dA3 cs ⟨un,sn,pnd,fo,rl⟩∧sn≤j∧j≤cn∧(j=sn→fj=fo)∧(j=cn→fj=fs)∧aL fj=0∧fj.length≤8:=by
 obtain⟨j,q1,q2,q3,q4,q5⟩:=whole_out hx h3 pn
 have h1:∀ a ∈ cs++[(⟨3,0,(pn:Int),[]⟩:Ac)],aB6 a=0:=fun a ha=>by
  rcases List.mem_append.1 ha with h|h
  ·exact hx a h
  ·rw[List.mem_singleton] at h;rw[h];exact cO5 AO
 have h2:∀ a ∈ cs++[(⟨2,0,0,[]⟩:Ac)],aB6 a=0:=fun a ha=>by
  rcases List.mem_append.1 ha with h|h
  ·exact hx a h
  ·rw[List.mem_singleton] at h;rw[h];exact sync_fine
 have e2:(bM (cs++[(⟨2,0,0,[]⟩:Ac)])).out=⟨(bM (cs++[(⟨2,0,0,[]⟩:Ac)])).out.up,((bM cs).commits.length:Int),(bM (cs++[(⟨2,0,0,[]⟩:Ac)])).out.pending,aS (bM cs).commits (bM cs).commits.length,(bM (cs++[(⟨2,0,0,[]⟩:Ac)])).out.replies⟩:=by
  rw[← q4,← q5]
 exact⟨_,j,_,_,_,_,_,_,_,_,_,_,dA4 h1 (by simp;omega) q3,dA4 h2 (by simp;omega) e2,dA4 hx AO rfl,q1,q2,fun h=>by rw[h];rfl,fun h=>by rw[h],bZ6 _ _,(bZ6 _ _).len⟩
theorem dB7 (w:World) (hT:bD w) (hH:bL w) (A:Option Addr) (l:List Gr) (c:Nat) (n:Int) (ha:Grs All w A l) (hl:l.length≤big) (hn:aS3 n) :
  Calls Tryz.prog 8 #[.slice A l.length c,.int .i64 n] w (bQ w (.bool true)):=by
 have HT:=zh hT
 have HH:=zh hH
 have Ha:=zh ha
 obtain⟨p,⟨hp0,hp4⟩,HP⟩:=aJ7 n 400 400 rfl AO AO hn
 obtain⟨pn,rfl⟩:=Int.eq_ofNat_of_zero_le hp0
 obtain⟨i0,z0,hi0,hz0,hz1,hz2,hz3⟩:=ac_parts
 clear hT hH ha hp0
 go_enter Tryz.func8,Tryz.ntmps8
 go_upto_region 2 with (first|(go_at_call 15;(with_reducible refine (cX5 _ ?hT A l c 60 60 rfl AO ?ha hl).mono ?_);(case hT=>exact HH.out);(case ha=>exact Ha.out);rintro e1 w1 ⟨xs,v,rfl,hxl,hxs,hown,hb1⟩;obtain⟨VA,vc,rfl,hvc,hacs⟩:=hown.readc acR_stays;have Hxs:=zh hxs;have Hown1:=zh hown;have HX1:=zh hacs;have Hb1:=zh hb1;clear hxs hown hacs hb1)|(go_at_call 19;(with_reducible refine (calm_ok _ VA xs vc ?ha AO).mono ?_);(case ha=>exact HX1.out.z acR_stays);rintro e3 y3 ⟨v3,rfl,hown3,hb3⟩;obtain⟨V3,c3,hve3,hvc3,hsl3⟩:=hown3.slices acR_stays;subst hve3;have HY3:=zh (hsl3.z acR_stays);have Hb3:=zh (Hb1.out.next hb3 Hb1.out.size);clear hown3 hvc3 hsl3 hb3))
 obtain⟨sn,j,cn,up,un,pp,pnd,fo,fj,fs,rl,rs,HRo,HRa,HRn,k1,k2,k3,k4,k5,k6⟩:=dB6 (cs:=dB3 xs) (fun a h=>Hxs.out a (dB5 h).1) (fun a h=>(dB5 h).2) (Nat.le_trans (dB4 xs) hxl) (pn:=pn) AO
 have hcl:(dB3 xs).length≤60:=Nat.le_trans (dB4 xs) hxl
 generalize dB3 xs=cs at *
 have K3:=zh k3
 have K4:=zh k4
 have K5:=zh k5
 clear k3 k4 k5
 go_upto_region 3 with (first|(go_at_call 25;(with_reducible refine (HP.out _).mono ?_);rintro e wz ⟨rfl,hwz⟩;have hwz:=hwz.symm;subst hwz)|(at_builtin;refine wpl_cat acR_stays acR_one (S:=All) _ rfl _ _ _ rfl y3.heap.size 49 i0 _ 4 48 Tryz.underlying23 hi0 hz0 hz1 hz2 hz3 (by decide) (.slice none 0 0) [] rfl ?hown V3 cs.length c3 cs rfl rfl ?hsrc ?h63 ?hby ?hba ?_;(case hown=>exact Own.nil _ _ _);(case hsrc=>exact (HY3.out).less acR_stays fun b _ _=>⟨trivial,nofun⟩);(case h63=>(simp only[maxLen,List.length_nil];omega));(case hby=>(simp only[List.length_nil];omega));(case hba=>exact zn);intro v4 y4 hown4 hb4 hg4 hat4;rw[List.nil_append] at hown4;obtain⟨V4,c4,rfl⟩:=aP6 hown4;have Hown4:=zh hown4;have Hb4:=zh hb4;clear hown4 hb4 hg4 hat4)|(at_builtin;refine wpl_cat acR_stays acR_one (S:=All) _ rfl _ _ _ rfl y3.heap.size 49 i0 _ 4 48 Tryz.underlying23 hi0 hz0 hz1 hz2 hz3 (by decide) (.slice V4 cs.length c4) cs rfl ?hown _ 1 _ [(⟨3,0,(pn:Int),[]⟩:Ac)] rfl rfl ?hsrc ?h63 ?hby ?hba ?_;(case hown=>exact Hown4.out.below acR_stays ((Below.refl _ _).alloc zn _));(case hsrc=>exact sl_one _ _ [.int .i64 3,.int .i64 0,.int .i64 (pn:Int),.slice none 0 0] _ (aK _ _ _) rfl _ ⟨none,0,rfl,zn,SL.nil⟩ ⟨trivial,Hown4.out.apart _ zn _ zn⟩);(case h63=>(simp only[maxLen,List.length_cons,List.length_nil];omega));(case hby=>(simp only[List.length_cons,List.length_nil];omega));(case hba=>exact (Hb4.out.alloc Hb4.out.size _).size);intro v5 y5 hown5 hb5 hg5 hat5;obtain⟨V5,c5,hve5,hvc5,hsl5⟩:=hown5.slices acR_stays;subst hve5;have HX5:=zh (hsl5.z acR_stays);have Hb5:=zh ((Hb4.out.alloc Hb4.out.size _).trans hb5);clear hown5 hsl5 hvc5 hb5 hg5 hat5)|(go_at_call 16;(with_reducible refine (Hid.out HRo _ V5 (cs.length+1) c5 (by simp) ?hT ?hH ?ha).mono ?_);(case hT=>exact HT.out.below (Hb3.out.next Hb5.out Hb3.out.size));(case hH=>exact HH.out.below (Hb3.out.next Hb5.out Hb3.out.size));(case ha=>exact HX5.out);rintro e6 u6 ⟨F6,f6,R6,r6,W6,b6,hi6,rfl,hW6,hbb6,hhi6,hB6,hw6,hu6⟩;have HB6:=zh hB6;have Hw6:=zh hw6;have HW6:=zh hW6;have Hbb6:=zh hbb6;have Hhi6:=zh hhi6;clear hB6 hw6 hu6 hW6 hbb6 hhi6))
 rw[HW6.out,Hbb6.out]
 have HY6:=zh ((HY3.out.below acR_stays Hb5.out).below acR_stays Hw6.out)
 have Hb6:=zh ((Hb3.out.next Hb5.out Hb3.out.size).next Hw6.out (Hb3.out.next Hb5.out Hb3.out.size).size)
 clear HY3 Hb3 Hb4 Hb5 Hown4 HX5 Hw6
 go_upto_region 4 with (first|(at_builtin;refine wpl_cat acR_stays acR_one (S:=All) _ rfl _ _ _ rfl W6.heap.size 49 i0 _ 4 48 Tryz.underlying23 hi0 hz0 hz1 hz2 hz3 (by decide) (.slice none 0 0) [] rfl ?hown V3 cs.length c3 cs rfl rfl ?hsrc ?h63 ?hby ?hba ?_;(case hown=>exact Own.nil _ _ _);(case hsrc=>exact (HY6.out).less acR_stays fun b _ _=>⟨trivial,nofun⟩);(case h63=>(simp only[maxLen,List.length_nil];omega));(case hby=>(simp only[List.length_nil];omega));(case hba=>exact zn);intro v7 y7 hown7 hb7 hg7 hat7;rw[List.nil_append] at hown7;obtain⟨V7,c7,rfl⟩:=aP6 hown7;have Hown7:=zh hown7;have Hb7:=zh hb7;clear hown7 hb7 hg7 hat7)|(at_builtin;refine wpl_cat acR_stays acR_one (S:=All) _ rfl _ _ _ rfl W6.heap.size 49 i0 _ 4 48 Tryz.underlying23 hi0 hz0 hz1 hz2 hz3 (by decide) (.slice V7 cs.length c7) cs rfl ?hown _ 1 _ [(⟨2,0,0,[]⟩:Ac)] rfl rfl ?hsrc ?h63 ?hby ?hba ?_;(case hown=>exact Hown7.out.below acR_stays ((Below.refl _ _).alloc zn _));(case hsrc=>exact sl_one _ _ [.int .i64 2,.int .i64 0,.int .i64 0,.slice none 0 0] _ (aK _ _ _) rfl _ ⟨none,0,rfl,zn,SL.nil⟩ ⟨trivial,Hown7.out.apart _ zn _ zn⟩);(case h63=>(simp only[maxLen,List.length_cons,List.length_nil];omega));(case hby=>(simp only[List.length_cons,List.length_nil];omega));(case hba=>exact (Hb7.out.alloc Hb7.out.size _).size);intro v8 y8 hown8 hb8 hg8 hat8;obtain⟨V8,c8,hve8,hvc8,hsl8⟩:=hown8.slices acR_stays;subst hve8;have HX8:=zh (hsl8.z acR_stays);have Hb8:=zh ((Hb7.out.alloc Hb7.out.size _).trans hb8);clear hown8 hsl8 hvc8 hb8 hg8 hat8)|(go_at_call 16;(with_reducible refine (Hid.out HRa _ V8 (cs.length+1) c8 (by simp) ?hT ?hH ?ha).mono ?_);(case hT=>exact HT.out.below (Hb6.out.next Hb8.out Hb6.out.size));(case hH=>exact HH.out.below (Hb6.out.next Hb8.out Hb6.out.size));(case ha=>exact HX8.out);rintro e9 u9 ⟨F9,f9,R9,r9,W9,b9,hi9,rfl,hW9,hbb9,hhi9,hB9,hw9,hu9⟩;have HB9:=zh hB9;have Hw9:=zh hw9;have HW9:=zh hW9;have Hbb9:=zh hbb9;have Hhi9:=zh hhi9;clear hB9 hw9 hu9 hW9 hbb9 hhi9))
 rw[HW9.out,Hbb9.out]
 have HY9:=zh ((HY6.out.below acR_stays Hb8.out).below acR_stays Hw9.out)
 have Hb9:=zh ((Hb6.out.next Hb8.out Hb6.out.size).next Hw9.out (Hb6.out.next Hb8.out Hb6.out.size).size)
 have HB69:=zh ((HB6.out.below Hb8.out).below Hw9.out)
 clear HY6 Hb6 Hb7 Hb8 Hown7 HX8 Hw9 HB6
 go_upto_region 5 with (go_at_call 16;(with_reducible refine (Hid.out HRn _ V3 _ c3 rfl ?hT ?hH ?ha).mono ?_);(case hT=>exact HT.out.below Hb9.out);(case hH=>exact HH.out.below Hb9.out);(case ha=>exact HY9.out);rintro e10 u10 ⟨F10,f10,R10,r10,W10,b10,hi10,rfl,hW10,hbb10,hhi10,hB10,hw10,hu10⟩;have HB10:=zh hB10;have Hw10:=zh hw10;have HW10:=zh hW10;have Hbb10:=zh hbb10;have Hhi10:=zh hhi10;clear hB10 hw10 hu10 hW10 hbb10 hhi10)
 rw[HW10.out,Hbb10.out]
 have HbF:=zh (Hb9.out.next Hw10.out Hb9.out.size)
 have hO:=HB69.out.below Hw10.out
 have hA:=HB9.out.below Hw10.out
 have hN:=HB10.out
 obtain⟨a0,a1,a2,a3,a4⟩:=hO.cells
 obtain⟨b0,b1,b2,b3,b4⟩:=hA.cells
 obtain⟨c0,c1,c2,c3',c4⟩:=hN.cells
 have lo:=hO.lt
 have FO:=zh (hO.fo.z tenR_stays)
 have FA:=zh (hA.fo.z tenR_stays)
 have FN:=zh (hN.fo.z tenR_stays)
 have hbig:fj.length≤big:=by unfold big;omega
 have m1:(sn:Int)≤(j:Int):=by omega
 have m2:(j:Int)≤(cn:Int):=by omega
 dsimp only at a0 a1 a3 b1 b3 c1 c3' FO FA FN
 clear hO hA hN HB69 HB9 HB10 Hb9 Hw10 HW6 Hbb6 Hhi6 HW9 Hbb9 Hhi9 HW10 Hbb10 Hhi10 HY9 HRo HRa HRn a2 a4 b0 b2 b4 c0 c2 c4
 by_cases e1:j=sn
 ·obtain rfl:=K3.out e1
  have e2:((j:Int)==(sn:Int))=true:=by simp[e1]
  subst e1
  go_wp2_with (go_at_call 22;refine (SameForestK_ok _ F6 F10 fj f6 f10 FO.out FN.out hbig).mono ?_;rintro e11 u11 ⟨rfl,hb11⟩)
  go_ret
  exact⟨rfl,HbF.out.next hb11 HbF.out.size⟩
 ·have e2:((j:Int)==(sn:Int))=false:=by simp;omega
  by_cases e3:j=cn
  ·obtain rfl:=K4.out e3
   have e4:((j:Int)==(cn:Int))=true:=by simp[e3]
   subst e3
   go_wp2_with (go_at_call 22;refine (SameForestK_ok _ F6 F9 fj f6 f9 FO.out FA.out hbig).mono ?_;rintro e12 u12 ⟨rfl,hb12⟩)
   go_ret
   exact⟨rfl,HbF.out.next hb12 HbF.out.size⟩
  ·have e4:((j:Int)==(cn:Int))=false:=by simp;omega
   go_wp2_with (go_at_call 31;refine (aD6 _ F6 fj f6 FO.out).mono ?_;rw[K5.out];rintro e13 u13 ⟨rfl,hb13⟩)
   go_ret
   exact⟨rfl,HbF.out.next hb13 HbF.out.size⟩
theorem dB8 (w:World) (hT:bD w) (hH:bL w) {A:Option Addr} {l:List Gr} {c:Nat} (h:Grs All w A l∧l.length≤big) {n:Int} (hn:(Lit.int .i64 n).wf=true) :
  Calls Tryz.prog 8 #[.slice A l.length c,.int .i64 n] w (bQ w (.bool true)):=dB7 w hT hH A l c n h.1 h.2 (bounds_i64 hn)
end Go.Proofs.YtlhpfgpagggdlaaGreatDoor
