/- ScrL: Acts told as lines and read again, in plain words: what was told is read. No program. Acts of a script as acts of lines, and back: words for memory. No program. Walk: TopScripts. The conditions of each are in its words. -/
import Derived.BigQuiet
import Derived.Deep.CutRange
import Derived.Test.YtablgnacmpcfeaaGreatDoorKLnD
import Derived.Test.YtablgnacmpcfeaaGreatDoorKLnF
import Derived.Test.YtablgnacmpcfeaaGreatDoorKLnA
import Derived.Test.YtablgnacmpcfeaaGreatDoorKTopO
import Derived.Test.YtablgnacmpcfeaaGreatDoorKTopL
namespace Go.Proofs.YtablgnacmpcfeaaGreatDoor
open Go.RowKit
set_option linter.unusedVariables false
set_option linter.unusedSimpArgs false
set_option maxRecDepth 100000
set_option maxHeartbeats 8000000
theorem eC4 (n:Nat):(10:UInt8) ∉ Lib.decDigits n:=fun h=>by
 have:=dec_digit n 10 h
 unfold eA4 at this
 simp at this
theorem no_feed_hex:∀ d:List UInt8,(10:UInt8) ∉ dX7 d:=by
 have h16:∀ n,n<16→(10:UInt8)≠dX6 n:=by decide
 intro d
 induction d with
 | nil=>simp[dX7]
 | cons b d ih =>
  have hb:=b.toNat_lt
  have e:dX7 (b :: d)=dX6 (b.toNat / 16) :: dX6 (b.toNat % 16) :: dX7 d:=rfl
  rw[e]
  simp only[List.mem_cons,not_or]
  exact⟨h16 _ AO,h16 _ AO,ih⟩
theorem no_feed {a:Le} (h:dX5 a=0):(10:UInt8) ∉ dY0 a:=by
 rcases eB1 h with ⟨s,hs,e⟩|e|⟨p,hp,e⟩|e
 ·rw[e]
  simp only[dY0,if_pos,List.mem_append,List.mem_cons,List.not_mem_nil,or_false,not_or]
  exact⟨⟨⟨by decide,eC4 _⟩,by decide⟩,no_feed_hex _⟩
 ·rw[e];decide
 ·rw[e]
  simp only[dY0]
  rw[if_neg ZD9,if_neg ZD9,if_pos trivial]
  simp only[List.mem_append,List.mem_cons,List.not_mem_nil,or_false,not_or]
  exact⟨by decide,eC4 _⟩
 ·rw[e];decide
theorem show_from:∀ (l:List Le) (k:Nat) (acc:List UInt8),(∀ a ∈ l,dX5 a=0)→showFrom l k acc=(acc++l.flatMap lnS,0,0)
 | [],_,acc,_=>by simp[showFrom]
 | a :: l,k,acc,h=>by
  rw[showFrom,if_neg (by rw[h a ZH2];simp),show_from l (k+1) _ fun b hb=>h b (by simp[hb])]
  simp
theorem lines_of:∀ (l:List Le),(∀ a ∈ l,dX5 a=0)→linesOf (l.flatMap lnS)=l.map lnS
 | [],_=>rfl
 | a :: l,h=>by
  rw[List.flatMap_cons,List.map_cons,show lnS a++l.flatMap lnS=dY0 a++10 :: l.flatMap lnS by simp[lnS],linesOf_app (no_feed (h a ZH2)),lines_of l fun b hb=>h b (by simp[hb])]
  rfl
theorem ok_back {a:Le} (h:dX5 a=0):okS (lnS a)=some a:=by
 unfold okS
 rw[back_p h,if_pos ⟨h,rfl⟩]
theorem read_from:∀ (l acc:List Le),(∀ a ∈ l,dX5 a=0)→acc.length+l.length≤100000→readFrom (l.map lnS) acc=(acc++l,0,0)
 | [],acc,_,_=>by simp[readFrom]
 | a :: l,acc,h,hl=>by
  simp only[List.length_cons] at hl
  rw[List.map_cons,readFrom,if_neg AO,ok_back (h a ZH2)]
  dsimp only
  rw[read_from l (acc++[a]) (fun b hb=>h b (by simp[hb])) ZC8]
  simp
theorem flat_lnS:∀ (l:List Le),(∀ a ∈ l,dX5 a=0)→(l.flatMap lnS).length≤8021*l.length
 | [],_=>by simp
 | a :: l,h=>by
  have h1:=lnS_len (h a ZH2)
  have h2:=flat_lnS l fun b hb=>h b (by simp[hb])
  rw[List.flatMap_cons,List.length_append,List.length_cons]
  omega
theorem eC5 {l:List Le} (h:∀ a ∈ l,dX5 a=0) (hl:l.length≤60):showS l=(l.flatMap lnS,0,0)∧eB4 (l.flatMap lnS)=(l,0,0):=by
 have h2:=flat_lnS l h
 constructor
 ·unfold showS
  rw[if_neg AO,show_from l 0 [] h]
  simp
 ·unfold eB4
  rw[if_neg AO,lines_of l h,read_from l [] h ZC8]
  simp
def leA (a:Ac):Le:=⟨a.kind,a.session,a.keep,a.data⟩
theorem eW1 (l:List Ac):(l.map leA).length=l.length:=List.length_map ..
theorem sl_map {α β:Type} {size:Nat} {R:(Nat→Prop)→World→List Value→α→Prop} {R':(Nat→Prop)→World→List Value→β→Prop} {S:Nat→Prop} {w:World} {A:Option Addr} {l:List α} {l':List β} (hn:l'.length=l.length) (hR:∀ i (h:i<l.length) (h':i<l'.length) cs,R S w cs l[i]→R' S w cs l'[i]) (h:SL size R S w A l):SL size R' S w A l':=fun hl=>by
 obtain⟨b,off,e,h0,hlt,hi⟩:=h AO
 exact⟨b,off,e,h0,hlt,fun i hil=>by
  obtain⟨cs,h1,h2,h3⟩:=hi i AO
  exact⟨cs,h1,h2,hR i AO hil cs h3⟩⟩
theorem les_of {S:Nat→Prop} {w:World} {A:Option Addr} {l:List Ac} (h:Acs S w A l) (hd:∀ a ∈ l,a.data.length≤big):Les S w A (l.map leA):=by
 refine sl_map (eW1 l) (fun i hi hi' cs hr=>?_) h
 rw[List.getElem_map]
 obtain⟨D,d,e,_,h2⟩:=hr
 exact⟨D,d,e,h2,hd _ (List.getElem_mem hi)⟩
theorem acs_of {S:Nat→Prop} {w:World} {A:Option Addr} {l:List Ac} (h:SL 4 LeRc S w A (l.map leA)):Acs S w A l:=by
 refine sl_map (eW1 l).symm (fun i hi hi' cs hr=>?_) h
 rw[List.getElem_map] at hr
 obtain⟨D,d,e,h1,h2,_⟩:=hr
 exact⟨D,d,e,h1,h2⟩
theorem le_fine {l:List Ac} (h:∀ a ∈ l,aB6 a=0):∀ a ∈ l.map leA,dX5 a=0:=fun a ha=>by
 obtain⟨x,hx,rfl⟩:=List.mem_map.1 ha
 exact h x hx
theorem ac_big {l:List Ac} (h:∀ a ∈ l,aB6 a=0):∀ a ∈ l,a.data.length≤big:=fun a ha=>Nat.le_trans (eC6 (a:=leA a) (h a ha)) ZD9
theorem script_lines {l:List Ac} (h:∀ a ∈ l,aB6 a=0) (hl:l.length≤60):∃ t:List UInt8,showS (l.map leA)=(t,0,0)∧eB4 t=(l.map leA,0,0) :=
 ⟨_,eC5 (le_fine h) (by rw[eW1];exact hl)⟩
theorem eW6 (w:World) (hT:bD w) (hH:bL w) (hL:eB6 w) (A:Option Addr) (l:List Gr) (c:Nat) (ha:Grs All w A l) (hl:l.length≤big) :
  Calls Tryz.prog 6 #[.slice A l.length c] w (bQ w (.bool true)):=by
 have HT:=zh hT
 have HH:=zh hH
 have HL:=zh hL
 have Ha:=zh ha
 clear hT hH hL ha
 go_enter Tryz.func6,Tryz.ntmps6
 go_upto_region 2 with (go_at_call 8;(with_reducible refine (cX5 _ ?hT A l c 60 60 rfl AO ?ha hl).mono ?_);(case hT=>exact HH.out);(case ha=>exact Ha.out);rintro e1 w1 ⟨xs,v,rfl,hxl,hxs,hown,hb1⟩;obtain⟨VA,vc,rfl,hvc,hacs⟩:=hown.readc acR_stays;have Hxs:=zh hxs;have Hown1:=zh hown;have HX1:=zh hacs;have Hb1:=zh hb1;clear hxs hown hacs hb1)
 have hxl:xs.length≤60:=by omega
 obtain⟨t,ht1,ht2⟩:=script_lines Hxs.out hxl
 obtain⟨⟨up,tn,pd,fo,rl⟩,ho⟩:∃ o,(bM xs).out=o:=⟨_,rfl⟩
 have HRa:dA3 xs ⟨up,tn,pd,fo,rl⟩:=dA4 Hxs.out AO ho
 have hrl60:rl.length≤60:=by
  have h1:rl=(bM xs).replies:=(congrArg Oc.replies ho).symm
  have h2:=(cZ1 Hxs.out).told
  rw[h1];omega
 have Hfo:=zh (show fo.length≤big from by
  have h1:fo=(bM xs).now:=(congrArg Oc.forest ho).symm
  have h2:=(bZ6 (bM xs).commits (bM xs).synced).len
  rw[h1]
  unfold Eng.now big
  omega)
 have Hsh:=zh (show ∀ (W:World) (A:Option Addr) (c:Nat),dY9 W→Acs All W A xs→Calls Tryz.prog 27 #[.slice A xs.length c] W (eW5 W (t,0,0)) from fun W A c hT h=>by
  have h3:=show_ok W hT A (xs.map leA) c (les_of h (ac_big Hxs.out))
  rw[ht1,eW1] at h3
  exact h3)
 have Hrd:=zh (show ∀ W:World,eB6 W→Calls Tryz.prog 28 #[.string ⟨t.toArray⟩] W (fun e w'=>∃ A c,e=.returned (.tuple #[.slice A xs.length c,.int .i64 0,.int .i64 0])∧xs.length≤c∧Acs (aB W.heap.size) w' A xs∧Below W.heap.size W w') from fun W hT=>by
  have h3:=read_ok W hT ⟨t.toArray⟩
  rw[show (⟨t.toArray⟩:ByteArray).data.toList=t from rfl,ht2] at h3
  refine h3.mono ?_
  rintro e w' ⟨A,c,rfl,h4,h5,h6⟩
  dsimp only at h4 h5 ⊢
  rw[eW1] at h4 ⊢
  exact⟨A,c,rfl,h4,acs_of h5,h6⟩)
 clear ho ht1 ht2
 obtain⟨TS,hTS⟩:∃ TS:ByteArray,TS=⟨t.toArray⟩:=⟨_,rfl⟩
 unfold eW5 at Hsh
 dsimp only at Hsh
 rw[← hTS] at Hsh Hrd
 clear hTS
 go_upto_region 3 with (go_at_call 27;(with_reducible refine (Hsh.out _ VA vc ?hT ?ha).mono ?_);(case hT=>exact HL.out.ln.below Hb1.out);(case ha=>exact HX1.out.z acR_stays);rintro e2 w2 ⟨rfl,hb2⟩;have HbB:=zh (Hb1.out.next hb2 Hb1.out.size);have HX2:=zh ((HX1.out.below acR_stays hb2).z acR_stays);clear hb2)
 go_upto_region 4 with (go_at_call 28;(with_reducible refine (Hrd.out _ ?hT).mono ?_);(case hT=>exact HL.out.below HbB.out);rintro e3 w3 ⟨VB,vb,rfl,hvb,hsb,hb3⟩;have HbC:=zh (HbB.out.next hb3 HbB.out.size);have HX3:=zh (HX2.out.below acR_stays hb3);have HY3:=zh (hsb.z acR_stays);clear hb3 hsb)
 go_upto_region 5 with (go_at_call 9;(with_reducible refine (Hid.out HRa _ VA _ vc rfl ?hT ?hH ?ha).mono ?_);(case hT=>exact HT.out.below HbC.out);(case hH=>exact HH.out.below HbC.out);(case ha=>exact HX3.out);rintro e6 u6 ⟨F6,f6,R6,r6,W6,b6,hi6,rfl,hW6,hbb6,hhi6,hB6,hw6,hu6,hv6⟩;have HV6:=zh hv6;have HB6:=zh hB6;have Hw6:=zh hw6;have HW6:=zh hW6;have Hbb6:=zh hbb6;have Hhi6:=zh hhi6;clear hB6 hw6 hu6 hv6 hW6 hbb6 hhi6)
 rw[HW6.out,Hbb6.out]
 have HbD:=zh (HbC.out.next Hw6.out HbC.out.size)
 have HY6:=zh (HY3.out.below acR_stays Hw6.out)
 go_upto_region 6 with (go_at_call 9;(with_reducible refine (Hid.out HRa _ VB _ vb rfl ?hT ?hH ?ha).mono ?_);(case hT=>exact HT.out.below HbD.out);(case hH=>exact HH.out.below HbD.out);(case ha=>exact HY6.out);rintro e9 u9 ⟨F9,f9,R9,r9,W9,b9,hi9,rfl,hW9,hbb9,hhi9,hB9,hw9,hu9,hv9⟩;have HV9:=zh hv9;have HB9:=zh hB9;have Hw9:=zh hw9;have HW9:=zh hW9;have Hbb9:=zh hbb9;have Hhi9:=zh hhi9;clear hB9 hw9 hu9 hv9 hW9 hbb9 hhi9)
 rw[HW9.out,Hbb9.out]
 have HbE:=zh (HbD.out.next Hw9.out HbD.out.size)
 have hA:=HB6.out.below Hw9.out
 have hB:=HB9.out
 have HVA:=zh ((HV6.out.below rpR_stays Hw9.out).z rpR_stays)
 have HVB:=zh (HV9.out.z rpR_stays)
 obtain⟨a0,a1,a2,a3,a4⟩:=hA.cells
 obtain⟨b0,b1,b2,b3,b4⟩:=hB.cells
 have lo:=hA.lt
 have lp:=hB.lt
 have FA:=zh (hA.fo.z tenR_stays)
 have FB:=zh (hB.fo.z tenR_stays)
 dsimp only at a0 a1 a2 a3 a4 b0 b1 b2 b3 b4 FA FB HVA HVB
 clear hA hB HB6 HB9 HW6 Hbb6 Hhi6 HW9 Hbb9 Hhi9 HRa Hw6 Hw9 HV6 HV9
 have hfo:=Hfo.out
 go_wp2_with (go_at_call 13;refine (SameForestK_ok _ F6 F9 fo f6 f9 FA.out FB.out hfo).mono ?_;rintro e11 u11 ⟨rfl,hb11⟩)
 have HbF:=zh (HbE.out.next hb11 HbE.out.size)
 have hz11:=hb11.size
 have a4':=(hb11.cell (p:=⟨b6,4,none⟩) lo).trans a4
 have b4':=(hb11.cell (p:=⟨b9,4,none⟩) lp).trans b4
 have HVA2:=zh (HVA.out.below rpR_stays hb11)
 have HVB2:=zh (HVB.out.below rpR_stays hb11)
 have lo':b6<u11.heap.size:=by omega
 have lp':b9<u11.heap.size:=by omega
 clear a0 a1 a2 a3 a4 b0 b1 b2 b3 b4 lo lp hb11 hz11
 go_loopw [14] (fun i wr=>∃ k:Nat,k≤rl.length∧i=.int .i64 k∧Below u11.heap.size u11 wr) (fun i _=>rl.length - (intOf i).toNat)
 case atStart=>exact⟨0,AO,rfl,Below.refl _ _⟩
 case round =>
  obtain⟨k,hk,rfl,hbr⟩:=hrel
  have Hbr:=zh hbr
  have p4:=(hbr.cell (p:=⟨b6,4,none⟩) lo').trans a4'
  have q4:=(hbr.cell (p:=⟨b9,4,none⟩) lp').trans b4'
  by_cases hlt:k<rl.length
  ·obtain⟨gb,off,V,v,P,p,R,q,A1,n1,K1,k1,X1,y1,A2,n2,K2,k2,X2,y2,rfl,hgl,hc,s1,s2,s3,s4,s5⟩:=rep_vals (HVA2.out.below rpR_stays hbr) hlt
   obtain⟨gb',off',V',v',P',p',R',q',A1',n1',K1',k1',X1',y1',A2',n2',K2',k2',X2',y2',rfl,hgl',hc',s1',s2',s3',s4',s5'⟩:=rep_vals (HVB2.out.below rpR_stays hbr) hlt
   have g1:=hc 1 AO
   have g2:=hc 2 AO
   have g6:=hc 6 AO
   have g1':=hc' 1 AO
   have g2':=hc' 2 AO
   have g6':=hc' 6 AO
   simp only[dE6,List.getElem?_cons_succ,List.getElem?_cons_zero] at g1 g2 g6 g1' g2' g6'
   have S3:=zh s3
   have S3':=zh s3'
   have h1:=fun n:Nat=>bE2 (s3.bbelow (below_drewN (Below.refl wr.heap.size wr) n)) 44 9 5 q Tryz.underlying44 Tryz.underlying5 Tryz.underlying9
   have h2:=fun n:Nat=>bE2 (s3'.bbelow (below_drewN (Below.refl wr.heap.size wr) n)) 44 9 5 q' Tryz.underlying44 Tryz.underlying5 Tryz.underlying9
   clear s1 s2 s3 s4 s5 s1' s2' s3' s4' s5' hc hc' hbr
   have HL1:=zh (show k+1≤rl.length from hlt)
   generalize rl[k]=x at *
   have i0':(0:Int)≤(k:Int):=by omega
   have i1':(k:Int)<(rl.length:Int):=by omega
   have d1:(x.code != x.code)=false:=by simp
   have d2:(x.turn != x.turn)=false:=by simp
   go_wp2
   go_quiet (fail)
   go_wp2
   go_roundw
   case rel=>exact⟨k+1,HL1.out,by go_num,by first|exact Hbr.out|exact Hbr.out.drew|exact below_drewN Hbr.out _⟩
   case measure=>have h9:=HL1.out;simp[intOf];omega
  ·obtain rfl:k=rl.length:=by omega
   have i1':(rl.length:Int)≤(rl.length:Int):=by omega
   clear hbr
   go_wp2
   go_ret
   exact⟨rfl,HbF.out.next Hbr.out HbF.out.size⟩
theorem eW7 (w:World) (hT:bD w) (hH:bL w) (hL:eB6 w) {A:Option Addr} {l:List Gr} {c:Nat} (h:Grs All w A l∧l.length≤big) :
  Calls Tryz.prog 6 #[.slice A l.length c] w (bQ w (.bool true)):=eW6 w hT hH hL A l c h.1 h.2
end Go.Proofs.YtablgnacmpcfeaaGreatDoor
