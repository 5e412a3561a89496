/- Enc: Bytes behind their length. Walks: CommitBytes and tape.Encode; the law TapeEncodes. Walk: tape.Encode; the law TapeEncodes. Walk of the law TapeEncodes. The conditions of each are in its words. -/
import Derived.Test.YtablgnacmpcfeaaGreatDoorKBase
import Derived.Test.YtablgnacmpcfeaaGreatDoorKCommit
namespace Go.Proofs.YtablgnacmpcfeaaGreatDoor
set_option linter.unusedVariables false
set_option linter.unusedSimpArgs false
set_option maxRecDepth 100000
set_option maxHeartbeats 8000000
end Go.Proofs.YtablgnacmpcfeaaGreatDoor
namespace Go.Proofs.YtablgnacmpcfeaaGreatDoor
open Go.RowKit
set_option linter.unusedVariables false
set_option linter.unusedSimpArgs false
set_option maxRecDepth 100000
set_option maxHeartbeats 8000000
def aI6 (x:Wr):List UInt8:=lpS x.name++(lpS x.key++(if x.flag=true then [255] else lpS x.value))
def bJ6 (c:Cm):List UInt8:=[UInt8.ofNat (c.1.toNat / 65536),UInt8.ofNat (c.1.toNat / 256),UInt8.ofNat c.1.toNat,UInt8.ofNat c.2.length]
def aO8 (c:Cm) (k:Nat):List UInt8:=bJ6 c++((c.2.take k).map aI6).flatten
theorem bP7 {c:Cm} {k:Nat} (h:k<c.2.length):aO8 c (k+1)=aO8 c k++aI6 c.2[k]:=by
 unfold aO8
 rw[aC8 _ _ h,List.map_append,List.flatten_append]
 simp
theorem bP8 (c:Cm):aO8 c 0=bJ6 c:=by simp[aO8]
def aM5 (c:Cm):List UInt8 × Int:=if aA2 c≠0 then ([],aA2 c) else (aO8 c c.2.length,0)
theorem cR4 {k:List UInt8} (h:aE k=0):k.length≤16:=by
 unfold aE at h
 split at h
 ·omega
 ·cases h
theorem cA2 {x:Wr} (h:aH x=0):x.name.length≤8∧x.key.length≤16∧x.value.length≤32:=by
 unfold aH at h
 by_cases h1:aI x.name=0
 ·rw[if_neg ZE3] at h
  refine⟨?_,?_⟩
  ·unfold aI at h1
   split at h1
   ·omega
   ·cases h1
  ·split at h
   ·split at h
    ·rename_i hk;exact absurd h hk
    ·rename_i hk
     split at h
     ·cases h
     ·exact⟨cR4 (by simpa using hk),AO⟩
   ·unfold aA5 at h
    dsimp only at h
    split at h
    ·cases h
    ·exact⟨cR4 h,AO⟩
 ·rw[if_pos h1] at h
  exact absurd h h1
theorem bF3 {c:Cm} (h:aA2 c=0):(1≤c.1∧c.1≤1048576)∧c.2.length≤10∧∀ i (hi:i<c.2.length),aH c.2[i]=0:=by
 unfold aA2 at h
 by_cases h1:1≤c.1∧c.1≤1048576
 ·rw[if_neg ZE3] at h
  split at h
  ·cases h
  ·have hz:=aI0 _ _ h
   have hl:c.2.length≤10:=by
    rcases Nat.lt_or_ge 10 c.2.length with h2|h2
    ·have:=hz 10 h2
     rw[Nat.zero_add,bV5 zn] at this
     cases this
    ·exact h2
   refine⟨h1,hl,fun i hi=>?_⟩
   have:=hz i hi
   rw[Nat.zero_add,cE0 hi AO] at this
   exact this
 ·rw[if_pos h1] at h
  cases h
theorem cF5 {x:Wr} (h:aH x=0):(aI6 x).length≤59:=by
 obtain⟨h1,h2,h3⟩:=cA2 h
 unfold aI6
 split
 ·simp[lpS];omega
 ·simp[lpS];omega
theorem bH5 {c:Cm} (h:aA2 c=0):∀ k,k≤c.2.length→(aO8 c k).length≤4+k*59:=by
 intro k
 induction k with
 | zero=>intro _;rw[bP8];simp[bJ6]
 | succ k ih =>
  intro hk
  rw[bP7 AO,List.length_append]
  have:=ih AO
  have:=cF5 ((bF3 h).2.2 k AO)
  omega
def RetBE (w:World) (r:List UInt8 × Int) (e:Ending) (w':World):Prop :=
 ∃ A c,e=.returned (.tuple #[.slice A r.1.length c,.int .i64 r.2])∧Bs (aB w.heap.size) w' A r.1∧Below w.heap.size w w'
theorem aU7 {w:World} {base g:Nat} {l:List UInt8} (h:w.heap[g]?=some (.cells (l.map bv).toArray 5 (0,0))) (hb:base≤g) (hm:l.length≤maxLen) :
  w.ownsRow base 5 1 (.slice (some ⟨g,0,none⟩) l.length l.length) l.length (l.map bv) :=
 ⟨by simp,.inr ⟨g,l.length,_,rfl,hb,h,zn,hm,by simp,by rw[Nat.mul_one];exact List.take_of_length_le ZH2⟩⟩
theorem cU2 (w:World) (A:Option Addr) (t:Nat) (l:List Wr) (n:Nat) (ha:Ws All w A l) (hn:l.length*80≤140737488355328) (h1:aA2 ((t:Int),l)=0) :
  Calls Tryz.prog 263 #[.agg #[.int .i64 (t:Int),.slice A l.length n]] w (RetBE w (aM5 ((t:Int),l))):=by
 have Ha:=zh ha
 clear ha
 obtain⟨i0,hi0,hz0,hz1',hz2'⟩:=info_parts info_u8
 have bc:(aA2 ((t:Int),l) != 0)=false:=by simp[h1]
 have Hv:=zh (show aM5 ((t:Int),l)=(aO8 ((t:Int),l) l.length,0) by unfold aM5;rw[if_neg ZE3])
 obtain⟨⟨hf1,hf2⟩,hf3,hf4⟩:=bF3 h1
 have Hlen:=zh (bH5 h1)
 have Hwl:=zh (fun i hi=>cA2 (hf4 i hi))
 dsimp only at hf1 hf2 hf3
 have Hbx:=zh (aK w #[.int .i64 (t:Int),.slice A l.length n] 177)
 have Hb0:=zh (show Below w.heap.size w (w.alloc (.cells #[.int .i64 (t:Int),.slice A l.length n] 177)) from (Below.refl _ _).alloc zn _)
 have Hhd:=zh (show (#[.int .u8 ((t:Int) / 65536),.int .u8 ((t:Int) / 256 % 256),.int .u8 ((t:Int) % 256),.int .u8 (l.length:Int)]:Array Value)=((bJ6 ((t:Int),l)).map bv).toArray by simp[bJ6,bv];omega)
 clear h1 hf4
 go_enter Tryz.func263,Tryz.ntmps263
 go_wp2_with (go_at_call 236;refine (aK1 _ A (t:Int) l n (Ha.out.below wrR_stays ?_) hn).mono ?_;(all_goals try exact BE);rintro e w1 ⟨rfl,hb1⟩;have hbw1:=Hb0.out.next hb1 ZH2;have Hbx1:=zh ((hb1.block _ ZH2).trans Hbx.out);have hz1:w.heap.size<w1.heap.size:=ZD8;obtain⟨g0,g1,_,_⟩:=bF Hbx1.out)
 generalize hW:w1.alloc _=w2
 have hx2:w2.heap[w1.heap.size]?=some (.cells ((bJ6 ((t:Int),l)).map bv).toArray 5 (0,0)):=by rw[← hW,← Hhd.out];exact aK w1 _ _
 have Hb12:=zh (show Below w1.heap.size w1 w2 by rw[← hW];exact (Below.refl _ _).alloc zn _)
 have hz2:w2.heap.size=w1.heap.size+1:=by rw[← hW];simp
 clear hW
 have Hx2:=zh hx2
 have Hbw1:=zh hbw1
 clear hx2 Hhd g0 g1 hb1 hbw1
 go_loopw [5,32] (fun v' i wr=>∃ (k:Nat) (v:Value),k≤l.length∧i=.int .i64 k∧v'=v∧wr.ownsRow w1.heap.size 5 1 v (aO8 ((t:Int),l) k).length ((aO8 ((t:Int),l) k).map bv)∧Below w1.heap.size w2 wr) (fun _ i _=>l.length - (intOf i).toNat)
 case atStart=>exact⟨0,_,AO,rfl,rfl,by rw[bP8];exact aU7 Hx2.out zn (by simp[bJ6,maxLen]),Below.refl _ _⟩
 case round =>
  obtain⟨k,v,hk,rfl,rfl,hown,hbel⟩:=hrel
  have hap:u5.ownBlock≠some wr.heap.size:=fun hv=>by have:=(hown.lt _ hv).2;omega
  have Hbel:=zh hbel
  have hbz:=hbel.size
  have Hb2:=zh (Hb12.out.trans hbel)
  have Hbw:=zh (Hbw1.out.next Hb2.out AO)
  have Hown:=zh hown
  clear hbel hown
  by_cases hlt:k<l.length
  ·have Hnx:=zh (bP7 (c:=((t:Int),l)) hlt)
   have hel:=Hlen.out k AO
   obtain⟨g,off,A1,a1,B1,b1,C1,c1,rfl,_,hal,hc1,hc2,hc3,hc4,hs1,hs2,hs3,_,_,_⟩:=aF4 (((Ha.out.below wrR_stays Hbw1.out).low wrR_stays zn).same wrR_stays (aC.of_low Hb2.out)) hlt
   obtain⟨y1,y2,y3⟩:=Hwl.out k hlt
   dsimp only at Hnx
   have Hs1:=zh hs1
   have Hs2:=zh hs2
   have Hs3:=zh hs3
   clear hs1 hs2 hs3
   generalize l[k]=x at *
   generalize aO8 ((t:Int),l) k=E at *
   obtain⟨xn,xk,xf,xv⟩:=x
   dsimp only at *
   cases xf with
   | true =>
     obtain⟨E1,hE1⟩:∃ E1,E++lpS xn=E1:=⟨_,rfl⟩
     obtain⟨E2,hE2⟩:∃ E2,E1++lpS xk=E2:=⟨_,rfl⟩
     obtain⟨E3,hE3⟩:∃ E3,E2++[255]=E3:=⟨_,rfl⟩
     have hl1:E1.length≤800:=by rw[← hE1,List.length_append,bM2];omega
     have hl2:E2.length≤900:=by rw[← hE2,List.length_append,bM2];omega
     have HE1:=zh hE1
     have HE2:=zh hE2
     have HE3:=zh hE3
     clear hE1 hE2 hE3
     go_wp2_with fail
     go_region_held3 (fun w'=>w'.cell? ⟨wr.heap.size,0,none⟩=some (.slice A1 xn.length a1)∧w'.cell? ⟨wr.heap.size,1,none⟩=some (.slice B1 xk.length b1)∧w'.cell? ⟨wr.heap.size,2,none⟩=some (.bool true)∧w'.cell? ⟨wr.heap.size,3,none⟩=some (.slice C1 xv.length c1))
      (first
       | go_keep
       | exact⟨q0,q1,q2,q3⟩
       | exact⟨r0,r1,r2,r3⟩)
      (first
       | (go_at_call 284;(with_reducible refine (bE4 _ w1.heap.size u5 E ?ho A1 xn a1 ?hp ?hb ?hn).mono ?_);(case ho=>exact (Hown.out.alloc _));(case hp=>exact (Hs1.out.bsame (aC.of_low (((Below.refl w1.heap.size wr).alloc AO _).drew))));(case hb=>(simp;omega));(case hn=>(unfold big;omega));rintro e w3 ⟨v3,rfl,hown3,hb3,hs3,hn3⟩;have Hown3:=zh (show w3.ownsRow w1.heap.size 5 1 v3 E1.length (E1.map bv) by rw[← HE1.out];exact hown3);have hx3:=(hs3.block wr.heap.size ⟨by simp,hap⟩ ZH2).trans (aK wr _ _);obtain⟨q0,q1,q2,q3,_⟩:=bG hx3;have hz3:=hb3.size;have Hx3:=zh hx3;have hz3':wr.heap.size<w3.heap.size:=(by simp at hz3;omega);have Hap3:=zh (hn3 wr.heap.size ZH2 hap);clear hown3 hx3 hs3 hn3)
       | (go_at_call 284;(with_reducible refine (bE4 _ w1.heap.size v3 E1 Hown3.out B1 xk b1 ?hp ?hb ?hn).mono ?_);(case hp=>exact ((Hs2.out.bsame (aC.of_low (((Below.refl w1.heap.size wr).alloc AO _).drew))).bsame (aC.of_low hb3)));(case hb=>omega);(case hn=>(unfold big;omega));rintro e w4 ⟨v4,rfl,hown4,hb4,hs4,_⟩;have Hown4:=zh (show w4.ownsRow w1.heap.size 5 1 v4 E2.length (E2.map bv) by rw[← HE2.out];exact hown4);have hx4:=(hs4.block wr.heap.size ⟨hz3',Hap3.out⟩ hz3').trans Hx3.out;obtain⟨r0,r1,r2,r3,_⟩:=bG hx4;have hz4:=hb4.size;clear hown4 hx4 hs4))
     go_wp2_with (at_builtin;refine aC0 _ rfl _ _ _ rfl w1.heap.size 5 i0 (.int .u8 0) 1 1 Tryz.underlying44 hi0 hz0 hz1' hz2' rfl ZD9 v4 E2.length (E2.map bv) rfl (Hown4.out.alloc _) (some ⟨w4.heap.size,0,none⟩) 1 1 [bv 255] rfl rfl (aJ8 _ _ _) ZG3 ZD2 AO ZC8 ?_;intro v5 w5 hown5 hg5 hat5;have Hown5:=zh (show w5.ownsRow w1.heap.size 5 1 v5 E3.length (E3.map bv) by rw[← HE3.out,List.length_append,List.map_append];exact hown5);have hb5:Below w1.heap.size w4 w5:=((Below.refl _ _).alloc AO _).trans (aA6 (Hown4.out.alloc _) hg5 ZC8))
     go_roundw
     case rel=>exact⟨k+1,v5,AO,by go_num,rfl,by rw[Hnx.out,show (E++aI6 ⟨xn,xk,true,xv⟩)=E3 by rw[← HE3.out,← HE2.out,← HE1.out];simp[aI6]];exact Hown5.out,(((Hbel.out.alloc AO _).drew.trans hb3).trans hb4).trans hb5⟩
     case measure=>simp[intOf];omega
   | false =>
     obtain⟨E1,hE1⟩:∃ E1,E++lpS xn=E1:=⟨_,rfl⟩
     obtain⟨E2,hE2⟩:∃ E2,E1++lpS xk=E2:=⟨_,rfl⟩
     obtain⟨E3,hE3⟩:∃ E3,E2++lpS xv=E3:=⟨_,rfl⟩
     have hl1:E1.length≤800:=by rw[← hE1,List.length_append,bM2];omega
     have hl2:E2.length≤900:=by rw[← hE2,List.length_append,bM2];omega
     have HE1:=zh hE1
     have HE2:=zh hE2
     have HE3:=zh hE3
     clear hE1 hE2 hE3
     go_wp2_with fail
     go_region_held3 (fun w'=>w'.cell? ⟨wr.heap.size,0,none⟩=some (.slice A1 xn.length a1)∧w'.cell? ⟨wr.heap.size,1,none⟩=some (.slice B1 xk.length b1)∧w'.cell? ⟨wr.heap.size,2,none⟩=some (.bool false)∧w'.cell? ⟨wr.heap.size,3,none⟩=some (.slice C1 xv.length c1))
      (first
       | go_keep
       | exact⟨q0,q1,q2,q3⟩
       | exact⟨r0,r1,r2,r3⟩)
      (first
       | (go_at_call 284;(with_reducible refine (bE4 _ w1.heap.size u5 E ?ho A1 xn a1 ?hp ?hb ?hn).mono ?_);(case ho=>exact (Hown.out.alloc _));(case hp=>exact (Hs1.out.bsame (aC.of_low (((Below.refl w1.heap.size wr).alloc AO _).drew))));(case hb=>(simp;omega));(case hn=>(unfold big;omega));rintro e w3 ⟨v3,rfl,hown3,hb3,hs3,hn3⟩;have Hown3:=zh (show w3.ownsRow w1.heap.size 5 1 v3 E1.length (E1.map bv) by rw[← HE1.out];exact hown3);have hx3:=(hs3.block wr.heap.size ⟨by simp,hap⟩ ZH2).trans (aK wr _ _);obtain⟨q0,q1,q2,q3,_⟩:=bG hx3;have hz3:=hb3.size;have Hx3:=zh hx3;have hz3':wr.heap.size<w3.heap.size:=(by simp at hz3;omega);have Hap3:=zh (hn3 wr.heap.size ZH2 hap);clear hown3 hx3 hs3 hn3)
       | (go_at_call 284;(with_reducible refine (bE4 _ w1.heap.size v3 E1 Hown3.out B1 xk b1 ?hp ?hb ?hn).mono ?_);(case hp=>exact ((Hs2.out.bsame (aC.of_low (((Below.refl w1.heap.size wr).alloc AO _).drew))).bsame (aC.of_low hb3)));(case hb=>omega);(case hn=>(unfold big;omega));rintro e w4 ⟨v4,rfl,hown4,hb4,hs4,_⟩;have Hown4:=zh (show w4.ownsRow w1.heap.size 5 1 v4 E2.length (E2.map bv) by rw[← HE2.out];exact hown4);have hx4:=(hs4.block wr.heap.size ⟨hz3',Hap3.out⟩ hz3').trans Hx3.out;obtain⟨r0,r1,r2,r3,_⟩:=bG hx4;have hz4:=hb4.size;clear hown4 hx4 hs4))
     go_wp2_with (go_at_call 284;refine (bE4 _ w1.heap.size v4 E2 Hown4.out C1 xv c1 ((Hs3.out.bsame (aC.of_low (((Below.refl w1.heap.size wr).alloc AO _).drew))).bsame (aC.of_low hb3) |>.bsame (aC.of_low hb4)) AO (by unfold big;omega)).mono ?_;rintro e w5 ⟨v5,rfl,hown5,hb5,_,_⟩;have Hown5:=zh (show w5.ownsRow w1.heap.size 5 1 v5 E3.length (E3.map bv) by rw[← HE3.out];exact hown5))
     go_roundw
     case rel=>exact⟨k+1,v5,AO,by go_num,rfl,by rw[Hnx.out,show (E++aI6 ⟨xn,xk,false,xv⟩)=E3 by rw[← HE3.out,← HE2.out,← HE1.out];simp[aI6]];exact Hown5.out,(((Hbel.out.alloc AO _).drew.trans hb3).trans hb4).trans hb5⟩
     case measure=>simp[intOf];omega
  ·obtain rfl:k=l.length:=by omega
   have Hbs:=zh (Hown.out)
   rcases Hown.out.2 with ⟨rfl,h0⟩|⟨g,cap,cur,rfl,_,_,_⟩
   ·have Hh0:=zh h0
    clear h0
    go_wp2
    go_ret2
    rw[Hv.out]
    exact⟨none,0,by dsimp only;rw[Hh0.out];rfl,(SL.bof_own Hbs.out).2.blo AO,Hbw.out⟩
   ·go_wp2
    go_ret2
    rw[Hv.out]
    exact⟨_,cap,rfl,(SL.bof_own Hbs.out).2.blo AO,Hbw.out⟩
theorem bD4 (w:World) (A:Option Addr) (t:Int) (l:List Wr) (n:Nat) (ha:Ws All w A l) (hn:l.length*80≤140737488355328) :
  Calls Tryz.prog 263 #[.agg #[.int .i64 t,.slice A l.length n]] w (RetBE w (aM5 (t,l))):=by
 have Ha:=zh ha
 clear ha
 by_cases h1:aA2 (t,l)=0
 ·have h2:=(bF3 h1).1
  dsimp only at h2
  obtain⟨m,rfl⟩:=Int.eq_ofNat_of_zero_le (show 0≤t by omega)
  exact cU2 w A m l n Ha.out hn h1
 ·have b1:(aA2 (t,l) != 0)=true:=by simpa using h1
  have Hv:=zh (show aM5 (t,l)=([],aA2 (t,l)) by unfold aM5;rw[if_pos h1])
  clear h1
  go_enter Tryz.func263,Tryz.ntmps263
  go_wp2_with (go_at_call 236;refine (aK1 _ A t l n (Ha.out.below wrR_stays ?_) hn).mono ?_;(all_goals try exact BE);rintro e w1 ⟨rfl,hb1⟩)
  go_ret2
  rw[Hv.out]
  exact⟨none,0,rfl,SL.nil,Below.next ((Below.refl _ _).alloc zn _) hb1 ZH2⟩
end Go.Proofs.YtablgnacmpcfeaaGreatDoor
