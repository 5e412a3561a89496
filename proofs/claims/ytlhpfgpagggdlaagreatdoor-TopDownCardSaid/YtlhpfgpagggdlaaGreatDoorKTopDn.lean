/- TopDn: Walk: TopDown. The conditions of each are in its words. -/
import Derived.Test.YtlhpfgpagggdlaaGreatDoorKTopO
import Derived.Test.YtlhpfgpagggdlaaGreatDoorKTopL
namespace Go.Proofs.YtlhpfgpagggdlaaGreatDoor
open Go.RowKit
set_option linter.unusedVariables false
set_option linter.unusedSimpArgs false
set_option maxRecDepth 100000
set_option maxHeartbeats 8000000
theorem down_out {l m:List Ac} (hm:∀ a ∈ m,a.kind=1∨a.kind=2):(bM (l++[⟨3,0,0,[]⟩]++m)).out={ (bM (l++[⟨3,0,0,[]⟩])).out with replies:=(bM (l++[⟨3,0,0,[]⟩])).replies++(m.filter fun a=>decide (a.kind=1)).map fun a=>aE4 a.session.toNat 13 }:=by
 have hu:=ran_crash_down l
 have e:=dA0 (l++[(⟨3,0,0,[]⟩:Ac)]) m
 rw[down_fold m _ hu hm] at e
 rw[e]
 rfl
theorem down_ran {xs:List Ac} (hx:∀ a ∈ xs,aB6 a=0) (hl:xs.length≤60):∃ (tn pd:Int) (fo:List Tn) (rl:List Rp),dA3 (xs++[(⟨3,0,0,[]⟩:Ac)]) ⟨false,tn,pd,fo,rl⟩∧Hid (∀ ms:List Ac,(∀ a ∈ ms,aB6 a=0∧(a.kind=1∨a.kind=2))→ms.length≤10→∃ r:List Rp,dA3 (xs++[(⟨3,0,0,[]⟩:Ac)]++ms) ⟨false,tn,pd,fo,r⟩∧r.length=rl.length+(ms.filter fun a=>decide (a.kind=1)).length∧∀ i (h:i<r.length),rl.length≤i→r[i].code=13)∧fo.length≤8∧rl.length≤61:=by
 have hu:=ran_crash_down xs
 have h1:∀ a ∈ xs++[(⟨3,0,0,[]⟩:Ac)],aB6 a=0:=fun a ha=>by
  rcases List.mem_append.1 ha with h|h
  ·exact hx a h
  ·rw[List.mem_singleton] at h;rw[h];exact cO5 (k:=0) AO
 have ht:=(cZ1 h1).told
 have ho:=fun (ms:List Ac) (hm:∀ a ∈ ms,a.kind=1∨a.kind=2)=>down_out (l:=xs) hm
 have hf:∀ ms:List Ac,(∀ a ∈ ms,aB6 a=0∧(a.kind=1∨a.kind=2))→∀ a ∈ xs++[(⟨3,0,0,[]⟩:Ac)]++ms,aB6 a=0:=fun ms hm a ha=>by
  rcases List.mem_append.1 ha with h|h
  ·exact h1 a h
  ·exact (hm a h).1
 rw[List.length_append,List.length_singleton] at ht
 have hz:(xs++[(⟨3,0,0,[]⟩:Ac)]).length≤61:=by simp;omega
 generalize xs++[(⟨3,0,0,[]⟩:Ac)]=zs at *
 have e1:(bM zs).out=⟨false,(bM zs).out.turn,(bM zs).out.pending,(bM zs).out.forest,(bM zs).replies⟩:=by
  rw[← hu];rfl
 refine⟨(bM zs).out.turn,(bM zs).out.pending,(bM zs).out.forest,(bM zs).replies,dA4 h1 AO e1,zh fun ms hm hl2=>⟨(bM zs).replies++(ms.filter fun a=>decide (a.kind=1)).map fun a=>aE4 a.session.toNat 13,dA4 (hf ms hm) (by rw[List.length_append];omega) ?_,?_,?_⟩,(bZ6 _ _).len,AO⟩
 ·rw[ho ms fun a h=>(hm a h).2,e1]
 ·rw[List.length_append,List.length_map]
 ·intro i h hi
  rw[List.getElem_append_right hi,List.getElem_map]
  rfl
theorem dC0 (w:World) (hT:bD w) (hH:bL w) (A:Option Addr) (l:List Gr) (c:Nat) (M:Option Addr) (ml:List Gr) (mc:Nat) (ha:Grs All w A l) (hl:l.length≤big) (hM:Grs All w M ml) (hml:ml.length≤big) :
  Calls Tryz.prog 11 #[.slice A l.length c,.slice M ml.length mc] w (bQ w (.bool true)):=by
 have HT:=zh hT
 have HH:=zh hH
 have Ha:=zh ha
 have HM:=zh hM
 obtain⟨i0,z0,hi0,hz0,hz1,hz2,hz3⟩:=ac_parts
 clear hT hH ha hM hml
 go_enter Tryz.func11,Tryz.ntmps11
 go_upto_region 2 with (first|(go_at_call 15;(with_reducible refine (cX5 _ ?hT A l c 40 40 rfl AO ?ha hl).mono ?_);(case hT=>exact HH.out);(case ha=>exact Ha.out);rintro e1 w1 ⟨xs,v,rfl,hxl,hxs,hown,hb1⟩;obtain⟨VA,vc,rfl,hvc,hacs⟩:=hown.readc acR_stays;have Hxs:=zh hxs;have Hown1:=zh hown;have HX1:=zh hacs;have Hb1:=zh hb1;clear hxs hown hacs hb1)|(at_builtin;refine wpl_cat acR_stays acR_one (S:=(aB w.heap.size)) _ rfl _ _ _ rfl w.heap.size 49 i0 _ 4 48 Tryz.underlying23 hi0 hz0 hz1 hz2 hz3 (by decide) (.slice VA xs.length vc) xs rfl ?hown _ 1 _ [(⟨3,0,0,[]⟩:Ac)] rfl rfl ?hsrc ?h63 ?hby ?hba ?_;(case hown=>exact Hown1.out.below acR_stays ((Below.refl _ _).alloc zn _));(case hsrc=>exact sl_one _ _ [.int .i64 3,.int .i64 0,.int .i64 0,.slice none 0 0] _ (aK _ _ _) rfl _ ⟨none,0,rfl,zn,SL.nil⟩ ⟨Hb1.out.size,Hown1.out.apart _ zn _ zn⟩);(case h63=>(simp only[maxLen,List.length_singleton];omega));(case hby=>(simp only[List.length_singleton];omega));(case hba=>exact (Hb1.out.alloc Hb1.out.size _).size);intro v3 y3 hown3 hb3 hg3 hat3))
 obtain⟨V3,c3,hve3,hvc3,hsl3⟩:=hown3.readc acR_stays
 subst hve3
 obtain⟨zs,hzs⟩:∃ zs,zs=xs++[(⟨3,0,0,[]⟩:Ac)]:=⟨_,rfl⟩
 have hzl:zs.length≤41:=by rw[hzs,List.length_append,List.length_singleton];omega
 obtain⟨tn,pd,fo,rl,HR4,HR2,hfo,hrl⟩:=down_ran Hxs.out AO
 rw[← hzs] at hown3 hsl3 hvc3 HR4 HR2 ⊢
 have Hf3:=zh (show ∀ a ∈ zs,aB6 a=0 by
  rw[hzs];intro a ha
  rcases List.mem_append.1 ha with h|h
  ·exact Hxs.out a h
  ·rw[List.mem_singleton] at h;rw[h];exact cO5 (k:=0) AO)
 have HX3:=zh hsl3
 have Hown3:=zh hown3
 have Hb3:=zh ((Hb1.out.alloc Hb1.out.size _).trans hb3)
 clear hown3 hsl3 hb3 hg3 hat3 hvc3 hvc hzs HX1 Hown1
 go_upto_region 3 with (go_at_call 16;(with_reducible refine (Hid.out HR4 _ V3 _ c3 rfl ?hT ?hH ?ha).mono ?_);(case hT=>exact HT.out.below Hb3.out);(case hH=>exact HH.out.below Hb3.out);(case ha=>exact (HX3.out.z acR_stays));rintro e4 u4 ⟨F4,f4,R4,r4,W4,b4,hi4,rfl,hW4,hbb4,hhi4,hB4,hw4,hu4⟩;have HB4:=zh hB4;have Hw4:=zh hw4;have HW4:=zh hW4;have Hbb4:=zh hbb4;have Hhi4:=zh hhi4;clear hB4 hw4 hu4 hW4 hbb4 hhi4)
 rw[HW4.out,Hbb4.out]
 obtain⟨lo,hlo⟩:∃ lo,lo=y3.heap.size:=⟨_,rfl⟩
 rw[← hlo] at HB4
 have HG4:=zh (show Gro w.heap.size lo hi4 W4 (.slice V3 zs.length c3) zs from ⟨Hown3.out.below acR_stays Hw4.out,fun x hx hb=>Hown3.out.apart lo (by rw[hlo];exact zn) x hb.1 hx,Hf3.out⟩)
 have Hb4:=zh (Hb3.out.next Hw4.out Hb3.out.size)
 clear hlo Hown3 HX3 Hf3 Hb3 Hw4 HW4 Hbb4 HR4
 go_wp2
 go_loopw [5,8,9] (fun v nn i wr=>∃ (k j:Nat) (ms:List Ac),k≤ml.length∧k≤10∧i=.int .i64 k∧nn=.int .i64 j∧ms.length≤k∧j=(ms.filter fun a=>decide (a.kind=1)).length∧(∀ a ∈ ms,a.kind=1∨a.kind=2)∧Gro w.heap.size lo hi4 wr v (zs++ms)∧OcB lo hi4 wr b4 ⟨false,tn,pd,fo,rl⟩ F4 f4 R4 r4∧hi4≤wr.heap.size∧Below w.heap.size w wr) (fun _ _ i _=>ml.length - (intOf i).toNat)
 case atStart=>exact⟨0,0,[],AO,by omega,rfl,rfl,zn,rfl,(fun a h=>by cases h),by rw[List.append_nil];exact HG4.out,HB4.out,(by rw[Hhi4.out];exact zn),Hb4.out⟩
 case round =>
  obtain⟨k,j,ms,hk,hk10,rfl,rfl,hms,hj,hmk,hgro,hob,hhi,hbr⟩:=hrel
  obtain⟨wo,rfl⟩:∃ wo:World,wo=wr:=⟨_,rfl⟩
  obtain⟨ns,hns⟩:∃ ns,ns=zs++ms:=⟨_,rfl⟩
  have hnl:ns.length≤51:=by rw[hns,List.length_append];omega
  have hjk:j≤10:=by rw[hj];exact Nat.le_trans (List.length_filter_le _ _) AO
  rw[← hns] at hgro
  obtain⟨VA2,vc2,rfl⟩:=aP6 hgro.own
  have Hns:=zh hns
  have Hj:=zh hj
  have Hmk:=zh hmk
  have Hgro:=zh hgro
  have Hob:=zh hob
  have Hhi:=zh hhi
  have Hbr:=zh hbr
  clear hj hmk hgro hob hhi hbr hns HG4 HB4 Hb4
  by_cases hlt:k<ml.length∧k<10
  ·obtain⟨hlt,hkn⟩:=hlt
   obtain⟨b,off,rfl,hab,a0,a1,a2,a3,a4,q0,q1,q2,q3,q4⟩:=grs_at (HM.out.below grR_stays Hbr.out) hlt
   have i0':(0:Int)≤(k:Int):=by omega
   have i1':(k:Int)<(ml.length:Int):=by omega
   have i2':(k:Int)<10:=by omega
   have i3':(0:Int)≤(j:Int):=by omega
   have i4':(j:Int)≤10:=by omega
   generalize ml[k]=g at *
   go_upto_region 8 with (go_at_call 26;(with_reducible refine (cX4 _ ?hT g q0 q1 q2 q3 q4).mono ?_);(case hT=>exact HH.out.below Hbr.out);rintro e5 u5 ⟨x,A5,c5,rfl,hx,hxl5,hs5,hb5⟩;have Hx:=zh hx;have S5:=zh hs5;have Hb5:=zh hb5;clear hx hs5 hb5)
   have hbx:=aK u5 #[.int .i64 x.kind,.int .i64 x.session,.int .i64 x.keep,.slice A5 x.data.length c5] 49
   obtain⟨wb,hwb⟩:∃ wb,wb=u5.alloc (.cells #[.int .i64 x.kind,.int .i64 x.session,.int .i64 x.keep,.slice A5 x.data.length c5] 49):=⟨_,rfl⟩
   have hwu:Below wo.heap.size wo wb:=by rw[hwb];exact Hb5.out.alloc Hb5.out.size _
   have S6:=zh (show Bs (aB wo.heap.size) wb A5 x.data by rw[hwb];exact S5.out.bbelow ((Below.refl _ _).alloc zn _))
   rw[← hwb] at hbx ⊢
   obtain⟨bx,hbxe⟩:∃ bx,bx=u5.heap.size:=⟨_,rfl⟩
   have hlb:wo.heap.size≤bx:=by rw[hbxe];exact Hb5.out.size
   rw[← hbxe] at hbx ⊢
   have hbl:bx<wb.heap.size:=(Array.getElem?_eq_some_iff.1 hbx).1
   have x0:=aA (cs:=[.int .i64 x.kind,.int .i64 x.session,.int .i64 x.keep,.slice A5 x.data.length c5]) hbx 0
   have x1:=aA (cs:=[.int .i64 x.kind,.int .i64 x.session,.int .i64 x.keep,.slice A5 x.data.length c5]) hbx 1
   have x2:=aA (cs:=[.int .i64 x.kind,.int .i64 x.session,.int .i64 x.keep,.slice A5 x.data.length c5]) hbx 2
   have x3:=aA (cs:=[.int .i64 x.kind,.int .i64 x.session,.int .i64 x.keep,.slice A5 x.data.length c5]) hbx 3
   simp only[List.getElem?_cons_zero,List.getElem?_cons_succ] at x0 x1 x2 x3
   have Hbw:=zh (Hbr.out.next hwu Hbr.out.size)
   have Hgw:=zh (Hgro.out.below hwu)
   have How:=zh (Hob.out.below hwu)
   have Hhw:=zh (Nat.le_trans Hhi.out hwu.size)
   have Hw5:=zh hwu
   clear hwb hbxe hwu hbx S5 Hb5
   have hkind:x.kind=1∨x.kind=2∨(x.kind≠1∧x.kind≠2):=by omega
   rcases hkind with h1|h2|⟨h1,h2⟩
   ·have e1:(x.kind==1)=true:=by simp[h1]
    have H1:=zh h1
    clear h1
    go_wp2_with (at_builtin;refine wpl_cat acR_stays acR_one (S:=(aB w.heap.size)) _ rfl _ _ _ rfl w.heap.size 49 i0 _ 4 48 Tryz.underlying23 hi0 hz0 hz1 hz2 hz3 (by decide) (.slice VA2 ns.length vc2) ns rfl ?hown _ 1 _ [x] rfl rfl ?hsrc ?h63 ?hby ?hba ?_;(case hown=>exact Hgw.out.own.below acR_stays ((Below.refl _ _).alloc zn _));(case hsrc=>exact sl_one _ _ [.int .i64 x.kind,.int .i64 x.session,.int .i64 x.keep,.slice A5 x.data.length c5] _ (aK _ _ _) rfl _ ⟨A5,c5,rfl,hxl5,(S6.out.bbelow ((Below.refl _ _).alloc zn _)).bless fun b _ h=>⟨Nat.le_trans Hbr.out.size h,Hgro.out.own.apart _ zn b h⟩⟩ ⟨Hbw.out.size,Hgw.out.own.apart _ zn _ zn⟩);(case h63=>(simp only[maxLen,List.length_singleton];omega));(case hby=>(simp only[List.length_singleton];omega));(case hba=>exact (Hbw.out.alloc Hbw.out.size _).size);intro v6 y6 hown6 hb6 hg6 hat6;have d0:=((aC.grown (S:=fun b=>b=bx) (aC.refl _ _) hg6 (fun q hq e=>absurd (Hgro.out.own.lts hq).2 AO)).cell (p:=⟨bx,0,none⟩) rfl (by simp;omega)).trans ((((Below.refl wb.heap.size wb).alloc zn _).cell (p:=⟨bx,0,none⟩) hbl).trans x0))
    go_roundw
    case rel=>exact⟨k+1,j+1,ms++[x],AO,by omega,by go_num,by go_num,by simp;omega,by rw[List.filter_append,List.length_append,← Hj.out];simp[H1.out],(fun a ha=>by
     rcases List.mem_append.1 ha with h|h
     ·exact Hmk.out a h
     ·rw[List.mem_singleton] at h;rw[h];exact .inl H1.out),by rw[← List.append_assoc,← Hns.out];exact Hgw.out.app hown6 hat6 (Nat.le_trans Hhw.out (by simp)) (fun a ha=>by rw[List.mem_singleton] at ha;rw[ha];exact Hx.out),(How.out.below ((Below.refl _ _).alloc zn _)).same (Hgw.out.same hg6),Nat.le_trans Hhw.out (Nat.le_trans (by simp) hg6.size),(Hbw.out.alloc Hbw.out.size _).trans hb6⟩
    case measure=>simp[intOf];omega
   ·have e1:(x.kind==1)=false:=by simp[h2]
    have e2:(x.kind==2)=true:=by simp[h2]
    have H2:=zh h2
    clear h2
    go_wp2_with (at_builtin;refine wpl_cat acR_stays acR_one (S:=(aB w.heap.size)) _ rfl _ _ _ rfl w.heap.size 49 i0 _ 4 48 Tryz.underlying23 hi0 hz0 hz1 hz2 hz3 (by decide) (.slice VA2 ns.length vc2) ns rfl ?hown _ 1 _ [x] rfl rfl ?hsrc ?h63 ?hby ?hba ?_;(case hown=>exact Hgw.out.own.below acR_stays ((Below.refl _ _).alloc zn _));(case hsrc=>exact sl_one _ _ [.int .i64 x.kind,.int .i64 x.session,.int .i64 x.keep,.slice A5 x.data.length c5] _ (aK _ _ _) rfl _ ⟨A5,c5,rfl,hxl5,(S6.out.bbelow ((Below.refl _ _).alloc zn _)).bless fun b _ h=>⟨Nat.le_trans Hbr.out.size h,Hgro.out.own.apart _ zn b h⟩⟩ ⟨Hbw.out.size,Hgw.out.own.apart _ zn _ zn⟩);(case h63=>(simp only[maxLen,List.length_singleton];omega));(case hby=>(simp only[List.length_singleton];omega));(case hba=>exact (Hbw.out.alloc Hbw.out.size _).size);intro v6 y6 hown6 hb6 hg6 hat6;have d0:=((aC.grown (S:=fun b=>b=bx) (aC.refl _ _) hg6 (fun q hq e=>absurd (Hgro.out.own.lts hq).2 AO)).cell (p:=⟨bx,0,none⟩) rfl (by simp;omega)).trans ((((Below.refl wb.heap.size wb).alloc zn _).cell (p:=⟨bx,0,none⟩) hbl).trans x0))
    go_roundw
    case rel=>exact⟨k+1,j,ms++[x],AO,by omega,by go_num,by go_num,by simp;omega,by rw[List.filter_append,List.length_append,← Hj.out];simp[H2.out],(fun a ha=>by
     rcases List.mem_append.1 ha with h|h
     ·exact Hmk.out a h
     ·rw[List.mem_singleton] at h;rw[h];exact .inr H2.out),by rw[← List.append_assoc,← Hns.out];exact Hgw.out.app hown6 hat6 (Nat.le_trans Hhw.out (by simp)) (fun a ha=>by rw[List.mem_singleton] at ha;rw[ha];exact Hx.out),(How.out.below ((Below.refl _ _).alloc zn _)).same (Hgw.out.same hg6),Nat.le_trans Hhw.out (Nat.le_trans (by simp) hg6.size),(Hbw.out.alloc Hbw.out.size _).trans hb6⟩
    case measure=>simp[intOf];omega
   ·have e1:(x.kind==1)=false:=by simp[h1]
    have e2:(x.kind==2)=false:=by simp[h2]
    go_wp2
    go_roundw
    case rel=>exact⟨k+1,j,ms,AO,by omega,by go_num,rfl,AO,Hj.out,Hmk.out,by rw[← Hns.out];exact Hgw.out,How.out,Hhw.out,Hbw.out⟩
    case measure=>simp[intOf];omega
  ·obtain⟨rl2,HR12,hr2,HC⟩:∃ rl2:List Rp,dA3 ns ⟨false,tn,pd,fo,rl2⟩∧rl2.length=rl.length+j∧Hid (∀ i (h:i<rl2.length),rl.length≤i→rl2[i].code=13):=by
    obtain⟨r,h1,h2,h3⟩:=HR2.out ms (fun a h=>⟨Hgro.out.fine a (by rw[Hns.out];exact List.mem_append_right _ h),Hmk.out a h⟩) AO
    exact⟨r,by rw[Hns.out];exact h1,by rw[h2,Hj.out],zh h3⟩
   obtain⟨V9,c9,hve9,hvc9,hsl9⟩:=Hgro.out.acs
   obtain⟨rfl,rfl⟩:V9=VA2∧c9=vc2:=by cases hve9;exact⟨rfl,rfl⟩
   have HX9:=zh hsl9
   clear hve9 hvc9 hsl9
   have HRL:=zh hr2
   have hr3:(rl2.length:Int)=(rl.length:Int)+(j:Int):=by omega
   have hr4:(rl.length:Int)≤(rl2.length:Int):=by omega
   have hr5:(rl.length:Int)≤1000:=by omega
   have hj0:(0:Int)≤(j:Int):=by omega
   have hj1:(j:Int)≤10:=by omega
   have hbig:fo.length≤big:=by unfold big;omega
   have HR3:=zh hr3
   have e3:((rl2.length:Int) != (rl.length:Int)+(j:Int))=false:=by simp[hr3]
   clear hr2 hr3
   have hcase:((ml.length:Int)≤(k:Int))∨((k:Int)<(ml.length:Int)∧(10:Int)≤(k:Int)):=by omega
   clear hlt
   rcases hcase with hle|⟨hkl,hle⟩
   all_goals
    go_upto_region 13 with (go_at_call 16;(with_reducible refine (Hid.out HR12 _ _ _ _ rfl ?hT ?hH ?ha).mono ?_);(case hT=>exact HT.out.below Hbr.out);(case hH=>exact HH.out.below Hbr.out);(case ha=>exact HX9.out);rintro e12 u12 ⟨F12,f12,R12,r12,W12,b12,hi12,rfl,hW12,hbb12,hhi12,hB12,hw12,hu12⟩;have HB12:=zh hB12;have Hw12:=zh hw12;have HW12:=zh hW12;have Hbb12:=zh hbb12;have Hhi12:=zh hhi12;clear hB12 hw12 hu12 hW12 hbb12 hhi12)
    rw[HW12.out,Hbb12.out]
    have hA:=Hob.out.below Hw12.out
    have hB:=HB12.out
    obtain⟨x0,x1,x2,x3,x4⟩:=hA.cells
    obtain⟨y0,y1,y2,y3',y4⟩:=hB.cells
    have lA:=hA.lt
    have lB:=hB.lt
    have FA:=zh (hA.fo.z tenR_stays)
    have FB:=zh (hB.fo.z tenR_stays)
    have HRe:=zh (hB.re.z rpB_stays)
    have HbF:=zh (Hbr.out.next Hw12.out Hbr.out.size)
    dsimp only at x1 x3 x4 y0 y1 y3' y4 HRe FA FB
    clear hA hB Hob HB12 HX9 Hbr Hw12 HR12 HW12 Hbb12 Hhi12 x0 x2 y2 Hgro Hhi
    go_wp2_with (go_at_call 22;refine (SameForestK_ok _ F4 F12 fo f4 f12 FA.out FB.out hbig).mono ?_;rintro e13 u13 ⟨rfl,hb13⟩;have d0:=(hb13.cell (p:=⟨b4,4,none⟩) lA).trans x4;have d1:=(hb13.cell (p:=⟨b12,4,none⟩) lB).trans y4;have l13:=Nat.lt_of_lt_of_le lB hb13.size)
    have HbG:=zh (HbF.out.next hb13 HbF.out.size)
    have HR13:=zh (HRe.out.below rpB_stays hb13)
    obtain⟨v5,rfl⟩:∃ v5:World,v5=u13:=⟨_,rfl⟩
    clear hb13 x1 x3 x4 y0 y1 y3' y4 e3
    go_loopw [13] (fun i wl=>∃ q:Nat,rl.length≤q∧q≤rl2.length∧i=.int .i64 q∧Below v5.heap.size v5 wl) (fun i _=>rl2.length - (intOf i).toNat)
    case atStart=>exact⟨rl.length,zn,AO,rfl,Below.refl _ _⟩
    case round =>
     obtain⟨q,hq1,hq2,rfl,hbl⟩:=hrel
     have z4:=(hbl.cell (p:=⟨b12,4,none⟩) l13).trans d1
     have HRq:=zh (HR13.out.below rpB_stays hbl)
     have Hbl:=zh hbl
     clear hbl
     by_cases hql:q<rl2.length
     ·obtain⟨rb,roff,rfl,hrl,_,r1,_,_⟩:=rep_at HRq.out hql
      rw[HC.out q hql hq1] at r1
      have j1:(q:Int)<(rl2.length:Int):=by omega
      have j0:(0:Int)≤(q:Int):=by omega
      have j2:(q:Int)<2000:=by have:=HR3.out;omega
      go_wp2
      go_roundw
      case rel=>exact⟨q+1,AO,by omega,by go_num,Hbl.out⟩
      case measure=>simp[intOf];omega
     ·have j1:(rl2.length:Int)≤(q:Int):=by omega
      go_wp2
      go_ret
      exact⟨rfl,HbG.out.next Hbl.out HbG.out.size⟩
theorem dC1 (w:World) (hT:bD w) (hH:bL w) {A:Option Addr} {l:List Gr} {c:Nat} (h:Grs All w A l∧l.length≤big) {M:Option Addr} {ml:List Gr} {mc:Nat} (hM:Grs All w M ml∧ml.length≤big) :
  Calls Tryz.prog 11 #[.slice A l.length c,.slice M ml.length mc] w (bQ w (.bool true)):=dC0 w hT hH A l c M ml mc h.1 h.2 hM.1 hM.2
end Go.Proofs.YtlhpfgpagggdlaaGreatDoor
