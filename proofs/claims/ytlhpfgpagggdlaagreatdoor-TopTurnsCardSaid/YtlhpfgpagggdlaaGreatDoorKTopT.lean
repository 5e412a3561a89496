/- TopT: Walks: canopytop's turns, TopTurns. The conditions of each are in its words. -/
import Derived.Test.YtlhpfgpagggdlaaGreatDoorKTopO
import Derived.Test.YtlhpfgpagggdlaaGreatDoorKTopL
namespace Go.Proofs.YtlhpfgpagggdlaaGreatDoor
open Go.RowKit
set_option linter.unusedVariables false
set_option linter.unusedSimpArgs false
set_option maxRecDepth 100000
set_option maxHeartbeats 8000000
def dA6 (n:Nat) (ts:List Nat):Prop:=(∀ i (h:i<ts.length),1≤ts[i]∧ts[i]≤n)∧(∀ i (h:i+1<ts.length),ts[i]<ts[i+1])∧ts.length≤n
theorem dA6.snoc {n:Nat} {ts:List Nat} (h:dA6 n ts):dA6 (n+1) (ts++[n+1]):=by
 obtain⟨h1,h2,h3⟩:=h
 refine⟨fun i hi=>?_,fun i hi=>?_,by simp;omega⟩
 ·by_cases e:i<ts.length
  ·rw[List.getElem_append_left e];have:=h1 i e;omega
  ·rw[List.getElem_append_right AO];simp
 ·rw[List.length_append,List.length_singleton] at hi
  rw[List.getElem_append_left AO]
  by_cases e:i+1<ts.length
  ·rw[List.getElem_append_left e];exact h2 i e
  ·rw[List.getElem_append_right AO];have:=h1 i AO;simp;omega
theorem dA6.mono {m n:Nat} {ts:List Nat} (h:dA6 m ts) (hn:m≤n):dA6 n ts:=⟨fun i hi=>by have:=h.1 i hi;omega,h.2.1,by have:=h.2.2;omega⟩
theorem dA7 {l:List Ac} (hl:∀ a ∈ l,aB6 a=0) {k:Nat} (hk:k<l.length) (h2:l[k].kind=2) :
  (bM (l.take k)).replies.length≤(bM (l.take (k+1))).replies.length∧(bM (l.take (k+1))).synced+(bM (l.take k)).replies.length=(bM (l.take k)).synced+(bM (l.take (k+1))).replies.length ∧
  ∀ j (h:j<(bM (l.take (k+1))).replies.length),(bM (l.take k)).replies.length≤j→(bM (l.take (k+1))).replies[j].turn=(((bM (l.take k)).synced+(j - (bM (l.take k)).replies.length)+1:Nat):Int):=by
 have hi:=cZ1 (l:=l.take k) fun a h=>hl a (List.mem_of_mem_take h)
 have he:bM (l.take (k+1))=aV2 (bM (l.take k)):=by
  rw[aC8 l k hk,cZ2]
  unfold doE
  rw[if_neg AO,if_pos h2]
 rw[he]
 generalize bM (l.take k)=g at *
 obtain⟨s1,s2⟩:=sync_count hi
 refine⟨s1,s2,fun j hj hlj=>?_⟩
 have h3:=(sync_told hi j hlj hj).1
 rw[List.getElem?_eq_getElem hj] at h3
 exact Option.some.inj h3
theorem act_mono {l:List Ac} (hl:∀ a ∈ l,aB6 a=0) {k:Nat} (hk:k<l.length):(bM (l.take k)).synced≤(bM (l.take (k+1))).synced:=by
 have hi:=cZ1 (l:=l.take k) fun a h=>hl a (List.mem_of_mem_take h)
 rw[aC8 l k hk,cZ2]
 exact (cV9 hi (hl l[k] (List.getElem_mem hk))).1
theorem info_inU:(Tryz.prog.info? 3).map (fun i=>(i.zero,i.size,i.bytes))=some (some (.int .i64 0),1,8):=by kernel_rfl
theorem naR_one:∀ S w cs x,NaR S w cs x→∀ u ∈ cs,u.oneCell'=true:=by
 rintro S w cs x rfl u hu
 simp at hu
 subst hu
 rfl
def RetTurns (w:World) (n:Nat) (e:Ending) (w':World):Prop :=
 ∃ (ts:List Nat) (v:Value),e=.returned (.tuple #[v,.bool true])∧dA6 n ts∧Own 1 NaR (aB w.heap.size) w' w.heap.size 3 v ts∧Below w.heap.size w w'
theorem turns_ok (w:World) (hT:bD w) (hH:bL w) (A:Option Addr) (l:List Ac) (c:Nat) (ha:Acs All w A l) (hl:∀ a ∈ l,aB6 a=0) (hn:l.length≤1000) (hc:l.length≤c) :
  Calls Tryz.prog 18 #[.slice A l.length c] w (RetTurns w (bM l).synced):=by
 have HT:=zh hT
 have HH:=zh hH
 have Ha:=zh ha
 have Hl:=zh hl
 obtain⟨i0,hi0,hz0,hz1,hz2⟩:=info_parts info_inU
 clear hT hH ha hl
 go_enter Tryz.func18,Tryz.ntmps18
 go_wp2
 go_loopw [4,5] (fun v i wr=>∃ (k:Nat) (ts:List Nat),k≤l.length∧i=.int .i64 k∧dA6 (bM (l.take k)).synced ts∧Own 1 NaR (aB w.heap.size) wr w.heap.size 3 v ts∧Below w.heap.size w wr) (fun _ i _=>l.length - (intOf i).toNat)
 case atStart=>exact⟨0,[],AO,rfl,⟨fun i h=>by simp at h,fun i h=>by simp at h,Nat.zero_le _⟩,Own.nil _ _ _,Below.refl _ _⟩
 case round =>
  obtain⟨k,ts,hk,rfl,hty,hown,hbr⟩:=hrel
  obtain⟨wo,rfl⟩:∃ wo:World,wo=wr:=⟨_,rfl⟩
  obtain⟨VA,vc,rfl⟩:=aP6 hown
  have Hty:=zh hty
  have Hown:=zh hown
  have Hbr:=zh hbr
  clear hty hown hbr
  by_cases hlt:k<l.length
  ·obtain⟨b,off,D,d,rfl,hab,a0,_⟩:=cO9 (Ha.out.below acR_stays Hbr.out) hlt
   have i0':(0:Int)≤(k:Int):=by omega
   have i1:(k:Int)<(l.length:Int):=by omega
   have i2:(k:Int)+1≤(l.length:Int):=by omega
   have i3:(k:Int)+1≤(c:Int):=by omega
   have i4:(k:Int)≤(c:Int):=by omega
   have Hmono:=zh (act_mono Hl.out hlt)
   by_cases h2:l[k].kind=2
   ·obtain⟨s1,s2,s3⟩:=dA7 Hl.out hlt h2
    have HA:=zh (fun (w':World) (hb:Below w.heap.size w w')=>ranTakeB_ok w' (HT.out.below hb) (HH.out.below hb) (some ⟨b,off,none⟩) l k k (Ha.out.below acR_stays hb) Hl.out hk AO)
    have HB:=zh (fun (w':World) (hb:Below w.heap.size w w')=>ranTakeB_ok w' (HT.out.below hb) (HH.out.below hb) (some ⟨b,off,none⟩) l (k+1) (k+1) (Ha.out.below acR_stays hb) Hl.out AO AO)
    rw[h2] at a0
    have hm3:=(cZ1 (l:=l.take (k+1)) fun a h=>Hl.out a (List.mem_of_mem_take h)).many
    have hm5:=(cZ1 (l:=l.take (k+1)) fun a h=>Hl.out a (List.mem_of_mem_take h)).told
    have hm4:=(cZ1 (l:=l.take (k+1)) fun a h=>Hl.out a (List.mem_of_mem_take h)).wait
    obtain⟨oa,hoa⟩:∃ oa,oa=(bM (l.take k)).out:=⟨_,rfl⟩
    obtain⟨ob,hob⟩:∃ ob,ob=(bM (l.take (k+1))).out:=⟨_,rfl⟩
    obtain⟨sa,hsa⟩:∃ sa,sa=(bM (l.take k)).synced:=⟨_,rfl⟩
    obtain⟨sb,hsb⟩:∃ sb,sb=(bM (l.take (k+1))).synced:=⟨_,rfl⟩
    have S1:=zh (show oa.replies.length≤ob.replies.length by rw[hoa,hob];exact s1)
    have S2:=zh (show sb+oa.replies.length=sa+ob.replies.length by rw[hoa,hob,hsa,hsb];exact s2)
    have Hs3:=zh (show ∀ j (h:j<ob.replies.length),oa.replies.length≤j→ob.replies[j].turn=((sa+(j - oa.replies.length)+1:Nat):Int) by subst hoa hob hsa;exact s3)
    have hr1:ob.replies.length≤1000:=by rw[List.length_take] at hm5;rw[hob];show (bM (l.take (k+1))).replies.length≤1000;omega
    rw[← hoa] at HA
    rw[← hob] at HB
    rw[← hsa] at Hty
    rw[← hsb] at hm4
    have hs300:sb≤300:=by omega
    have Hsb:=zh hsb
    clear hoa hob hsa hsb s3 Hmono s1 s2 hm3 hm4 hm5
    generalize l[k]=x at *
    go_upto_region 7 with (go_at_call 16;(with_reducible refine (HA.out _ Hbr.out).mono ?_);rintro e3 u3 ⟨F3,f3,R3,r3,W3,b3,hi3,rfl,hW3,hbb3,hhi3,hB3,hw3,_⟩;have HW3:=zh hW3;have Hbb3:=zh hbb3;have HB3:=zh hB3;have Hw3:=zh hw3;clear hW3 hbb3 hhi3 hB3 hw3)
    rw[HW3.out,Hbb3.out]
    go_upto_region 8 with (go_at_call 16;(with_reducible refine (HB.out _ (Hbr.out.next Hw3.out Hbr.out.size)).mono ?_);rintro e4 u4 ⟨F4,f4,R4,r4,w5,bb,hi,rfl,hW4,hbb4,hhi4,hB4,hw4,_⟩;have HW4:=zh hW4;have Hbb4:=zh hbb4;have HBo4:=zh hB4;have Hw4:=zh hw4;have HHs:=zh hhi4;clear hW4 hbb4 hhi4 hB4 hw4)
    rw[HW4.out,Hbb4.out]
    obtain⟨lo,hlo⟩:∃ lo,lo=W3.heap.size:=⟨_,rfl⟩
    have hwl:wo.heap.size≤lo:=by rw[hlo];exact Hw3.out.size
    rw[← hlo] at HBo4
    have c34':=((HB3.out.below Hw4.out).cells).2.2.2.2
    have HW45:=zh (Hw3.out.next Hw4.out Hw3.out.size)
    have HOwn5:=zh (Hown.out.below naR_stays HW45.out)
    have HNot:=zh (show ∀ x,(Value.slice VA ts.length vc).ownBlock=some x→¬ Btw lo hi x from fun x hx hb=>Hown.out.apart lo hwl x hb.1 hx)
    have HW6:=zh (Hbr.out.next HW45.out Hbr.out.size)
    clear hlo HW3 HW4 Hw3 Hw4 HB3 HW45 Hbb3 Hbb4 hwl Hown HA HB
    go_wp2_with fail
    go_loopw [4,10] (fun v i wi=>∃ (j:Nat) (us:List Nat),oa.replies.length≤j∧j≤ob.replies.length∧i=.int .i64 j∧dA6 (sa+(j - oa.replies.length)) us∧Own 1 NaR (aB w.heap.size) wi w.heap.size 3 v us∧(∀ x,v.ownBlock=some x→¬ Btw lo hi x)∧hi≤wi.heap.size∧OcB lo hi wi bb ob F4 f4 R4 r4∧Below w.heap.size w wi) (fun _ i _=>ob.replies.length - (intOf i).toNat)
    case atStart=>exact⟨oa.replies.length,ts,zn,S1.out,rfl,by rw[Nat.sub_self];exact Hty.out,HOwn5.out,HNot.out,by rw[HHs.out];exact zn,HBo4.out,HW6.out⟩
    case round =>
     obtain⟨j,us,hj1,hj2,rfl,hus,hown,hnot,hhi,hbo,hbw⟩:=hrel
     obtain⟨VB,vd,rfl⟩:=aP6 hown
     obtain⟨_,_,_,_,c44⟩:=hbo.cells
     have Hus:=zh hus
     have Hown:=zh hown
     have Hnot:=zh hnot
     have Hhi:=zh hhi
     have Hbo:=zh hbo
     have Hbw:=zh hbw
     have hbl:=hbo.lt
     have hu3:us.length≤300:=by have:=hus.2.2;have:=S2.out;have:=S1.out;omega
     clear hus hown hnot hhi hbo hbw c34' HOwn5 HNot
     by_cases hjl:j<ob.replies.length
     ·obtain⟨rb,roff,rfl,hrl,_,_,r2,_⟩:=rep_at Hbo.out.re hjl
      rw[Hs3.out j hjl hj1] at r2
      obtain⟨t,ht⟩:∃ t,t=sa+(j - oa.replies.length):=⟨_,rfl⟩
      rw[← ht] at r2 Hus
      have Ht:=zh ht
      have j1:(j:Int)<(ob.replies.length:Int):=by omega
      have j0:(0:Int)≤(j:Int):=by omega
      have hj63:(j:Int)<9223372036854775807:=by omega
      clear ht
      go_wp2_with (at_builtin;refine wpl_cat naR_stays naR_one (S:=aB w.heap.size) _ rfl _ _ _ rfl w.heap.size 3 i0 _ 1 8 Tryz.underlying35 hi0 hz0 hz1 hz2 rfl (by decide) _ us rfl ?hown _ 1 _ [t+1] rfl rfl ?hsrc ?h63 ?hby ?hba ?_;(case hown=>exact Hown.out.below naR_stays ((Below.refl _ _).alloc zn _));(case hsrc=>exact sl_one _ _ [.int .i64 ((t+1:Nat):Int)] _ (aK _ _ _) rfl (t+1) rfl ⟨Hbw.out.size,Hown.out.apart _ zn _ zn⟩);(case h63=>(simp only[maxLen,List.length_singleton];omega));(case hby=>(simp only[List.length_singleton];omega));(case hba=>(have:=Hbw.out.size;simp;omega));intro v' w6 hown6 hb6 hg6 hat6;have Hg6:=zh (aC.grown ((aC.refl (Btw lo hi) wr).alloc _) hg6 Hnot.out))
      go_roundw
      case rel=>exact⟨j+1,us++[t+1],AO,by omega,by go_num,by rw[show sa+(j+1 - oa.replies.length)=t+1 by rw[Ht.out];omega];exact Hus.out.snoc,hown6,(fun x hx=>by
       rcases hat6 with h|h
       ·rw[h] at hx;exact Hnot.out x hx
       ·rw[h] at hx;injection hx with hx;have:=Hhi.out;simp at hx;intro hq;have:=hq.2;omega),Nat.le_trans Hhi.out Hg6.out.size,Hbo.out.same Hg6.out,(Hbw.out.alloc Hbw.out.size _).trans hb6⟩
      case measure=>simp[intOf];omega
     ·have j1:(ob.replies.length:Int)≤(j:Int):=by omega
      obtain rfl:j=ob.replies.length:=by omega
      go_wp2
      go_roundw
      case rel=>exact⟨k+1,us,AO,by go_num,by rw[← Hsb.out,show sb=sa+(ob.replies.length - oa.replies.length) by have:=S2.out;have:=S1.out;omega];exact Hus.out,Hown.out,Hbw.out⟩
      case measure=>simp[intOf];omega
   ·have b1:(l[k].kind != 2)=true:=by simpa using h2
    generalize l[k]=x at *
    go_wp2
    go_roundw
    case rel=>exact⟨k+1,ts,AO,by go_num,Hty.out.mono Hmono.out,Hown.out,Hbr.out⟩
    case measure=>simp[intOf];omega
  ·have i1:(l.length:Int)≤(k:Int):=by omega
   obtain rfl:k=l.length:=by omega
   go_wp2
   refine bodyPost_ret (v:=.tuple #[.slice VA ts.length vc,.bool true]) (by simp[results,Tryz.results18,go_sem]) rfl ?_
   exact⟨ts,_,rfl,by have:=Hty.out;rwa [List.take_length] at this,Hown.out,Hbr.out⟩
theorem ints_at {S:Nat→Prop} {w:World} {A:Option Addr} {l:List Nat} (h:SL 1 NaR S w A l) (hl:0<l.length):∃ b off,A=some ⟨b,off,none⟩∧b<w.heap.size∧∀ j (hj:j<l.length),w.cell? ⟨b,off+j,none⟩=some (.int .i64 (l[j]:Int)):=by
 obtain⟨b,off,hA,_,hlt,hi⟩:=h hl
 refine⟨b,off,hA,hlt,fun j hj=>?_⟩
 obtain⟨cs,h1,h2,rfl⟩:=hi j hj
 have:=h2 0 AO
 simpa using this
theorem dA8 (w:World) (hT:bD w) (hH:bL w) (A:Option Addr) (l:List Gr) (c:Nat) (ha:Grs All w A l) (hl:l.length≤big) :
  Calls Tryz.prog 4 #[.slice A l.length c] w (bQ w (.bool true)):=by
 have HT:=zh hT
 have HH:=zh hH
 have Ha:=zh ha
 clear hT hH ha
 go_enter Tryz.func4,Tryz.ntmps4
 go_upto_region 2 with (go_at_call 15;(with_reducible refine (cX5 _ ?hT A l c 60 60 rfl AO ?ha hl).mono ?_);(case hT=>exact HH.out);(case ha=>exact Ha.out);rintro e1 w1 ⟨xs,v,rfl,hxl,hxs,hown,hb1⟩;obtain⟨VA,vc,rfl,hvc,hacs⟩:=hown.readc acR_stays;have Hxs:=zh hxs;have Hown1:=zh hown;have HX1:=zh hacs;have Hb1:=zh hb1;clear hxs hown hacs hb1)
 go_upto_region 3 with (go_at_call 18;(with_reducible refine (turns_ok _ ?hT ?hH VA xs vc ?ha ?hl AO hvc).mono ?_);(case hT=>exact HT.out.below Hb1.out);(case hH=>exact HH.out.below Hb1.out);(case ha=>exact HX1.out.z acR_stays);(case hl=>exact Hxs.out);rintro e5 w5 ⟨ts,v5,rfl,hts,hown5,hb5⟩;obtain⟨T5,c5,rfl,_,hsl5⟩:=hown5.readc naR_stays;have Hts:=zh hts;have HS5:=zh hsl5;have Hb5:=zh (Hb1.out.next hb5 Hb1.out.size);have HX5:=zh (HX1.out.below acR_stays hb5);clear hts hown5 hsl5 hb5)
 have hsn:(bM xs).synced≤300:=by have:=(cZ1 Hxs.out).many;have:=(cZ1 Hxs.out).wait;omega
 obtain⟨sn,o,hturn,hsn,Hts,HR2⟩:∃ (sn:Nat) (o:Oc),o.turn=(sn:Int)∧sn≤300∧Hid (dA6 sn ts)∧dA3 xs o:=⟨(bM xs).synced,(bM xs).out,rfl,hsn,Hts,dA4 Hxs.out AO rfl⟩
 have HTn:=zh hturn
 clear hturn
 go_upto_region 4 with (go_at_call 16;(with_reducible refine (Hid.out HR2 _ VA _ vc rfl ?hT ?hH ?ha).mono ?_);(case hT=>exact HT.out.below Hb5.out);(case hH=>exact HH.out.below Hb5.out);(case ha=>exact (HX5.out.z acR_stays));rintro e2 u2 ⟨F2,f2,R2,r2,W2,b2,hi2,rfl,hW2,hbb2,hhi2,hB2,hw2,hu2⟩;have HB2:=zh hB2;have Hw2:=zh hw2;have HW2:=zh hW2;have Hbb2:=zh hbb2;have Hhi2:=zh hhi2;clear hB2 hw2 hu2 hW2 hbb2 hhi2)
 rw[HW2.out,Hbb2.out]
 have HS2:=zh ((HS5.out.z naR_stays).below naR_stays Hw2.out)
 have Hb2:=zh (Hb5.out.next Hw2.out Hb5.out.size)
 go_wp2
 go_loopw [8] (fun i wr=>∃ k:Nat,k≤ts.length∧i=.int .i64 k∧Below W2.heap.size W2 wr) (fun i _=>ts.length - (intOf i).toNat)
 case atStart=>exact⟨0,AO,rfl,Below.refl _ _⟩
 case round =>
  obtain⟨k,hk,rfl,hbr⟩:=hrel
  have Hbr:=zh hbr
  have c1:=(HB2.out.below hbr).cells.2.1
  rw[HTn.out] at c1
  clear hbr
  by_cases hlt:k<ts.length
  ·obtain⟨b,off,rfl,hbl,hcs⟩:=ints_at (HS2.out.below naR_stays Hbr.out) AO
   have t0:=hcs k hlt
   obtain⟨h1,h2⟩:=Hts.out.1 k hlt
   have i0:(0:Int)≤(k:Int):=by omega
   have i1:(k:Int)<(ts.length:Int):=by omega
   have k1:decide ((ts[k]:Int)<1)=false:=by simp;omega
   have k2:decide ((sn:Int)<(ts[k]:Int))=false:=by simp;omega
   have Hcs:=zh hcs
   by_cases h0:k=0
   ·subst h0
    have k0:decide ((0:Int)<0)=false:=by decide
    have i1':(0:Int)<(ts.length:Int):=by omega
    rw[Nat.add_zero] at t0
    clear hcs
    go_wp2_with fail
    go_quiet (fail)
    go_wp2
    go_roundw
    case rel=>exact⟨_+1,hlt,by go_num,by first|exact below_drewN Hbr.out _|exact Hbr.out⟩
    case measure=>simp[intOf];omega
   ·obtain⟨j,rfl⟩:∃ j,k=j+1:=⟨k - 1,AO⟩
    have t1:=hcs j AO
    have i0':(0:Int)≤(j:Int)+1:=by omega
    have i1':(j:Int)+1<(ts.length:Int):=by omega
    have i2':(0:Int)≤(j:Int):=by omega
    have j63:(j:Int)≤300:=by have:=Hts.out.2.2;omega
    have i3':(j:Int)<(ts.length:Int):=by omega
    have w0:IntKind.i64.wrap (j:Int)=(j:Int):=IntWalk.i64_in _ AO
    have k0':decide ((0:Int)<(j:Int)+1)=true:=decide_eq_true AO
    have h3:=Hts.out.2.1 j hlt
    have k3:decide ((ts[j+1]:Int)≤(ts[j]:Int))=false:=by simp;omega
    have k0:decide ((0:Int)<((j+1:Nat):Int))=true:=decide_eq_true AO
    clear hcs
    go_wp2_with fail
    go_quiet (fail)
    go_wp2
    go_roundw
    case rel=>exact⟨_+1,hlt,by go_num,by first|exact below_drewN Hbr.out _|exact Hbr.out⟩
    case measure=>simp[intOf];omega
  ·have i1:(ts.length:Int)≤(k:Int):=by omega
   go_wp2
   go_ret
   exact⟨rfl,(by have:=Hb2.out.next Hbr.out Hb2.out.size;exact BX)⟩
theorem dA9 (w:World) (hT:bD w) (hH:bL w) {A:Option Addr} {l:List Gr} {c:Nat} (h:Grs All w A l∧l.length≤big) :
  Calls Tryz.prog 4 #[.slice A l.length c] w (bQ w (.bool true)):=dA8 w hT hH A l c h.1 h.2
end Go.Proofs.YtlhpfgpagggdlaaGreatDoor
