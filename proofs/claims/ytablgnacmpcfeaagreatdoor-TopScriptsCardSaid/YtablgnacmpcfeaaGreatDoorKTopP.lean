/- TopP: Walk: wire.Encode: its answer, with room. Walks: canopykeep's Picked; canopytop's request, ask. The conditions of each are in its words. -/
import Derived.Deep.CutRange
import Derived.Test.YtablgnacmpcfeaaGreatDoorKWireEnc
import Derived.Test.YtablgnacmpcfeaaGreatDoorKSrvP
import Derived.Test.YtablgnacmpcfeaaGreatDoorKWire
import Derived.Test.YtablgnacmpcfeaaGreatDoorKTapeR
namespace Go.Proofs.YtablgnacmpcfeaaGreatDoor
open Go.RowKit
set_option linter.unusedVariables false
set_option linter.unusedSimpArgs false
set_option maxRecDepth 100000
set_option maxHeartbeats 8000000
def cI9 (w:World) (r:List UInt8 × Int) (e:Ending) (w':World):Prop :=
 ∃ A c,e=.returned (.tuple #[.slice A r.1.length c,.int .i64 r.2])∧r.1.length≤c∧Bs (aB w.heap.size) w' A r.1∧Below w.heap.size w w'
theorem dV5 (w:World) (hT:bL w) (A B C D:Option Addr) (n e l v:List UInt8) (a b c d k:Nat) (hA:Bs All w A n) (hB:Bs All w B e) (hC:Bs All w C l) (hD:Bs All w D v) (hk1:1≤k) (hk8:k≤8) (pt:Nat) (hh:bO k=pt) (hH:pt=0∨pt=3∨pt=7∨pt=11) (hf:aB4 pt ⟨k,n,e,l,v⟩=0) :
  Calls Tryz.prog 47 #[.agg #[.int .i64 k,.slice A n.length a,.slice B e.length b,.slice C l.length c,.slice D v.length d]] w (cI9 w (bA pt ⟨k,n,e,l,v⟩ 4,0)):=by
 obtain⟨i0,hi0,hz0,hz1',hz2'⟩:=info_parts info_u8
 obtain⟨sm1,sm2,sm3⟩:=aR9 hf
 have hrq:aQ ⟨k,n,e,l,v⟩=0:=by unfold aQ;rw[if_neg (by show ¬ ¬ ((1:Int)≤(k:Int)∧(k:Int)≤8);omega)];show aB4 (bO k) _=0;rw[hh];exact hf
 have Hrq:=zh hrq
 obtain⟨P0,P1,P2⟩:(pt / 2 ^ 0 % 2=1→n.length≤32)∧(pt / 2 ^ 1 % 2=1→e.length≤32)∧(pt / 2 ^ 2 % 2=1→l.length≤32):=by
  rcases hH with rfl|rfl|rfl|rfl <;> refine⟨fun q=>?_,fun q=>?_,fun q=>?_⟩ <;> first|exact absurd q ZD9|(have hs:n.length≤8∧e.length≤16:=sm1 ZD9;omega)|(have hs:l.length≤16:=sm2 ZD9 ZD9;omega)
 have P3:pt / 2 ^ 3 % 2=1→v.length≤32:=fun _=>sm3
 have HE:∀ j,j≤4→(bA pt ⟨k,n,e,l,v⟩ j).length≤1+33*j:=by
  intro j
  induction j with
  | zero=>intro _;exact zn
  | succ j ih =>
   intro hj
   have:=ih AO
   rw[bA,List.length_append]
   split
   ·rename_i hb
    rcases (by omega:j=0∨j=1∨j=2∨j=3) with rfl|rfl|rfl|rfl
    ·have:=P0 hb;simp[lpS,aV];omega
    ·have:=P1 hb;simp[lpS,aV];omega
    ·have:=P2 hb;simp[lpS,aV];omega
    ·have:=P3 hb;simp[lpS,aV];omega
   ·simp;omega
 have HL:=zh HE
 have HP:=zh (And.intro P0 (And.intro P1 (And.intro P2 P3)))
 have Hg:=zh (hT k AO)
 rw[hh] at Hg
 have HT:=zh hT
 have HA:=zh hA
 have HB:=zh hB
 have HC:=zh hC
 have HD:=zh hD
 have hkc:(0:Int)≤(k:Int):=by omega
 have hkd:(k:Int)<9:=by omega
 have c0:Go.bits .and .i64 0 1=0:=by decide
 have c1:Go.bits .and .i64 1 1=1:=by decide
 have c2:Go.bits .and .i64 2 1=0:=by decide
 have c3:Go.bits .and .i64 3 1=1:=by decide
 have c4:Go.bits .and .i64 5 1=1:=by decide
 have c5:Go.bits .and .i64 7 1=1:=by decide
 have c6:Go.bits .and .i64 11 1=1:=by decide
 have x0:∀ W:World,(Instr.index 181 (.agg #[.slice A n.length a,.slice B e.length b,.slice C l.length c,.slice D v.length d]) (.int .i64 0)).run Tryz.prog W=.ok (.slice A n.length a) W:=fun _=>by kernel_rfl
 have x1:∀ W:World,(Instr.index 181 (.agg #[.slice A n.length a,.slice B e.length b,.slice C l.length c,.slice D v.length d]) (.int .i64 1)).run Tryz.prog W=.ok (.slice B e.length b) W:=fun _=>by kernel_rfl
 have x2:∀ W:World,(Instr.index 181 (.agg #[.slice A n.length a,.slice B e.length b,.slice C l.length c,.slice D v.length d]) (.int .i64 2)).run Tryz.prog W=.ok (.slice C l.length c) W:=fun _=>by kernel_rfl
 have x3:∀ W:World,(Instr.index 181 (.agg #[.slice A n.length a,.slice B e.length b,.slice C l.length c,.slice D v.length d]) (.int .i64 3)).run Tryz.prog W=.ok (.slice D v.length d) W:=fun _=>by kernel_rfl
 have hwk:=wrap_u8 k
 have Hwk:=zh hwk
 have Hb0:=zh (show Below w.heap.size w (w.alloc (.cells #[.int .i64 k,.slice A n.length a,.slice B e.length b,.slice C l.length c,.slice D v.length d] 48)) from (Below.refl _ _).alloc zn _)
 have Hbx:=zh (aK w #[.int .i64 k,.slice A n.length a,.slice B e.length b,.slice C l.length c,.slice D v.length d] 48)
 clear hA hB hC hD hT hf hrq hh sm1 sm2 sm3 hwk P0 P1 P2 P3 HE
 go_enter Tryz.func47,Tryz.ntmps47
 go_wp2_with (go_at_call 50;refine (aD7 _ (HT.out.below ?_) A B C D ⟨k,n,e,l,v⟩ a b c d).mono ?_;(all_goals try exact BE);rintro e1 w1 ⟨rfl,hb1⟩;rw[Hrq.out];have Hbw1:=zh (Hb0.out.next hb1 ZH2);have Hbx1:=zh ((hb1.block _ ZH2).trans Hbx.out);have hz1:w.heap.size<w1.heap.size:=ZD8;obtain⟨⟨g0,g1,g2,g3,g4⟩,_⟩:=bR Hbx1.out;clear hb1)
 generalize hW:w1.alloc _=w2
 have hx2:w2.heap[w1.heap.size]?=some (.cells (([UInt8.ofNat k]:List UInt8).map bv).toArray 5 (0,0)):=by
  rw[← hW]
  refine (aK w1 _ _).trans ?_
  have hk':(UInt8.ofNat k).toNat=k:=by rw[UInt8.toNat_ofNat'];omega
  simp[bv,hk']
 have Hb12:=zh (show Below w1.heap.size w1 w2 by rw[← hW];exact (Below.refl _ _).alloc zn _)
 have hz2:w2.heap.size=w1.heap.size+1:=by rw[← hW];simp
 clear hW
 have Hx2:=zh hx2
 clear hx2 g0 g1 g2 g3 g4
 go_loopw [5,26] (fun v' i wr=>∃ (j:Nat) (x:Value),j≤4∧i=.int .i64 j∧v'=x∧wr.ownsRow w1.heap.size 5 1 x (bA pt ⟨k,n,e,l,v⟩ j).length ((bA pt ⟨k,n,e,l,v⟩ j).map bv)∧Below w1.heap.size w2 wr) (fun _ i _=>4 - (intOf i).toNat)
 case atStart=>exact ZB9
 case round =>
  obtain⟨j,x,hj,rfl,rfl,hown,hbel⟩:=hrel
  have Hown:=zh hown
  have hbz:=hbel.size
  have Hb2:=zh (Hb12.out.trans hbel)
  have Hbel:=zh hbel
  have Hbw:=zh (Hbw1.out.next Hb2.out AO)
  obtain⟨⟨g0,g1,g2,g3,g4⟩,_⟩:=bR ((Hb2.out.block w.heap.size AO).trans Hbx1.out)
  have hcell:=(Hbw.out.cell (p:=⟨0,k,none⟩) (World.block_lt_of_cell? w _ Hg.out)).trans Hg.out
  have hap:u5.ownBlock≠some wr.heap.size:=fun hv=>by have:=(hown.lt _ hv).2;omega
  clear hbel hown
  rcases (by omega:j=0∨j=1∨j=2∨j=3∨j=4) with rfl|rfl|rfl|rfl|rfl
  ·by_cases hb:pt / 2 ^ 0 % 2=1
   ·have hEl:=HL.out 0 AO
    have Hnx:=zh (aS8 (r:=⟨k,n,e,l,v⟩) hb)
    have hpl0:n.length≤32:=HP.out.1 hb
    have Hbv:=zh (show bv (UInt8.ofNat n.length)=.int .u8 (n.length:Int) by unfold bv;rw[UInt8.toNat_ofNat',Nat.mod_eq_of_lt AO])
    have Hp:=zh (show Bs (Lo w1.heap.size) wr A n from ((HA.out.bbelow Hbw1.out).low byteR_stays zn).bsame (aC.of_low Hb2.out))
    generalize bA pt ⟨k,n,e,l,v⟩ 0=E at *
    rcases hH with rfl|rfl|rfl|rfl <;> first|exact absurd hb ZD9|skip
    all_goals
     clear hb
     go_wp2_with (first
      | (at_builtin;refine aC0 _ rfl _ _ _ rfl w1.heap.size 5 i0 (.int .u8 0) 1 1 Tryz.underlying44 hi0 hz0 hz1' hz2' rfl ZD9 u5 E.length (E.map bv) rfl (Hown.out.alloc _) (some ⟨wr.heap.size,0,none⟩) 1 1 [bv (UInt8.ofNat n.length)] rfl rfl ZG8 ZG3 ZD2 AO ZC8 ?_;intro v1 w3 hown1 hg1 hat1;have hz3:=hg1.size;simp at hz3;have hbA:=aA6 (Hown.out.alloc _) hg1 ZC8)
      | (at_builtin;refine aC0 _ rfl _ _ _ rfl w1.heap.size 5 i0 (.int .u8 0) 1 1 Tryz.underlying44 hi0 hz0 hz1' hz2' rfl ZD9 v1 (E.length+1) _ rfl hown1 A n.length a (n.map bv) rfl ZH2 (SL.bsrc (S:=Lo w1.heap.size) ((Hp.out.bsame (aC.of_low ((Below.refl _ _).alloc AO _))).bsame (aC.of_low hbA))) (aI3 n) ZD2 AO AO ?_;intro v2 w4 hown2 hg2 hat2;have hbB:=aA6 hown1 hg2 AO))
     go_roundw
     case rel =>
      refine⟨1,v2,AO,by go_num,rfl,?_,((Hbel.out.alloc AO _).trans hbA).trans hbB⟩
      rw[Hnx.out]
      have e:E.length+1+n.length=(E++lpS (aV ⟨k,n,e,l,v⟩ 0)).length:=by simp[lpS,aV];omega
      rw[← e]
      simpa [lpS,aV,List.map_append] using hown2
     case measure=>simp[intOf]
   ·have Hnn:=zh (aP2 (h:=pt) (r:=⟨k,n,e,l,v⟩) (j:=0) AO)
    rcases hH with rfl|rfl|rfl|rfl <;> first|exact absurd ZD9 hb|skip
    all_goals
     clear hb
     go_wp2
     go_roundw
     case rel=>exact⟨1,_,AO,by go_num,rfl,by rw[Hnn.out];exact Hown.out,Hbel.out⟩
     case measure=>simp[intOf]
  ·by_cases hb:pt / 2 ^ 1 % 2=1
   ·have hEl:=HL.out 1 AO
    have Hnx:=zh (aS8 (r:=⟨k,n,e,l,v⟩) hb)
    have hpl0:e.length≤32:=HP.out.2.1 hb
    have Hbv:=zh (show bv (UInt8.ofNat e.length)=.int .u8 (e.length:Int) by unfold bv;rw[UInt8.toNat_ofNat',Nat.mod_eq_of_lt AO])
    have Hp:=zh (show Bs (Lo w1.heap.size) wr B e from ((HB.out.bbelow Hbw1.out).low byteR_stays zn).bsame (aC.of_low Hb2.out))
    generalize bA pt ⟨k,n,e,l,v⟩ 1=E at *
    rcases hH with rfl|rfl|rfl|rfl <;> first|exact absurd hb ZD9|skip
    all_goals
     clear hb
     go_wp2_with (first
      | (at_builtin;refine aC0 _ rfl _ _ _ rfl w1.heap.size 5 i0 (.int .u8 0) 1 1 Tryz.underlying44 hi0 hz0 hz1' hz2' rfl ZD9 u5 E.length (E.map bv) rfl (Hown.out.alloc _) (some ⟨wr.heap.size,0,none⟩) 1 1 [bv (UInt8.ofNat e.length)] rfl rfl ZG8 ZG3 ZD2 AO ZC8 ?_;intro v1 w3 hown1 hg1 hat1;have hz3:=hg1.size;simp at hz3;have hbA:=aA6 (Hown.out.alloc _) hg1 ZC8)
      | (at_builtin;refine aC0 _ rfl _ _ _ rfl w1.heap.size 5 i0 (.int .u8 0) 1 1 Tryz.underlying44 hi0 hz0 hz1' hz2' rfl ZD9 v1 (E.length+1) _ rfl hown1 B e.length b (e.map bv) rfl ZH2 (SL.bsrc (S:=Lo w1.heap.size) ((Hp.out.bsame (aC.of_low ((Below.refl _ _).alloc AO _))).bsame (aC.of_low hbA))) (aI3 e) ZD2 AO AO ?_;intro v2 w4 hown2 hg2 hat2;have hbB:=aA6 hown1 hg2 AO))
     go_roundw
     case rel =>
      refine⟨2,v2,AO,by go_num,rfl,?_,((Hbel.out.alloc AO _).trans hbA).trans hbB⟩
      rw[Hnx.out]
      have e:E.length+1+e.length=(E++lpS (aV ⟨k,n,e,l,v⟩ 1)).length:=by simp[lpS,aV];omega
      rw[← e]
      simpa [lpS,aV,List.map_append] using hown2
     case measure=>simp[intOf]
   ·have Hnn:=zh (aP2 (h:=pt) (r:=⟨k,n,e,l,v⟩) (j:=1) AO)
    rcases hH with rfl|rfl|rfl|rfl <;> first|exact absurd ZD9 hb|skip
    all_goals
     clear hb
     go_wp2
     go_roundw
     case rel=>exact⟨2,_,AO,by go_num,rfl,by rw[Hnn.out];exact Hown.out,Hbel.out⟩
     case measure=>simp[intOf]
  ·by_cases hb:pt / 2 ^ 2 % 2=1
   ·have hEl:=HL.out 2 AO
    have Hnx:=zh (aS8 (r:=⟨k,n,e,l,v⟩) hb)
    have hpl0:l.length≤32:=HP.out.2.2.1 hb
    have Hbv:=zh (show bv (UInt8.ofNat l.length)=.int .u8 (l.length:Int) by unfold bv;rw[UInt8.toNat_ofNat',Nat.mod_eq_of_lt AO])
    have Hp:=zh (show Bs (Lo w1.heap.size) wr C l from ((HC.out.bbelow Hbw1.out).low byteR_stays zn).bsame (aC.of_low Hb2.out))
    generalize bA pt ⟨k,n,e,l,v⟩ 2=E at *
    rcases hH with rfl|rfl|rfl|rfl <;> first|exact absurd hb ZD9|skip
    all_goals
     clear hb
     go_wp2_with (first
      | (at_builtin;refine aC0 _ rfl _ _ _ rfl w1.heap.size 5 i0 (.int .u8 0) 1 1 Tryz.underlying44 hi0 hz0 hz1' hz2' rfl ZD9 u5 E.length (E.map bv) rfl (Hown.out.alloc _) (some ⟨wr.heap.size,0,none⟩) 1 1 [bv (UInt8.ofNat l.length)] rfl rfl ZG8 ZG3 ZD2 AO ZC8 ?_;intro v1 w3 hown1 hg1 hat1;have hz3:=hg1.size;simp at hz3;have hbA:=aA6 (Hown.out.alloc _) hg1 ZC8)
      | (at_builtin;refine aC0 _ rfl _ _ _ rfl w1.heap.size 5 i0 (.int .u8 0) 1 1 Tryz.underlying44 hi0 hz0 hz1' hz2' rfl ZD9 v1 (E.length+1) _ rfl hown1 C l.length c (l.map bv) rfl ZH2 (SL.bsrc (S:=Lo w1.heap.size) ((Hp.out.bsame (aC.of_low ((Below.refl _ _).alloc AO _))).bsame (aC.of_low hbA))) (aI3 l) ZD2 AO AO ?_;intro v2 w4 hown2 hg2 hat2;have hbB:=aA6 hown1 hg2 AO))
     go_roundw
     case rel =>
      refine⟨3,v2,AO,by go_num,rfl,?_,((Hbel.out.alloc AO _).trans hbA).trans hbB⟩
      rw[Hnx.out]
      have e:E.length+1+l.length=(E++lpS (aV ⟨k,n,e,l,v⟩ 2)).length:=by simp[lpS,aV];omega
      rw[← e]
      simpa [lpS,aV,List.map_append] using hown2
     case measure=>simp[intOf]
   ·have Hnn:=zh (aP2 (h:=pt) (r:=⟨k,n,e,l,v⟩) (j:=2) AO)
    rcases hH with rfl|rfl|rfl|rfl <;> first|exact absurd ZD9 hb|skip
    all_goals
     clear hb
     go_wp2
     go_roundw
     case rel=>exact⟨3,_,AO,by go_num,rfl,by rw[Hnn.out];exact Hown.out,Hbel.out⟩
     case measure=>simp[intOf]
  ·by_cases hb:pt / 2 ^ 3 % 2=1
   ·have hEl:=HL.out 3 AO
    have Hnx:=zh (aS8 (r:=⟨k,n,e,l,v⟩) hb)
    have hpl0:v.length≤32:=HP.out.2.2.2 hb
    have Hbv:=zh (show bv (UInt8.ofNat v.length)=.int .u8 (v.length:Int) by unfold bv;rw[UInt8.toNat_ofNat',Nat.mod_eq_of_lt AO])
    have Hp:=zh (show Bs (Lo w1.heap.size) wr D v from ((HD.out.bbelow Hbw1.out).low byteR_stays zn).bsame (aC.of_low Hb2.out))
    generalize bA pt ⟨k,n,e,l,v⟩ 3=E at *
    rcases hH with rfl|rfl|rfl|rfl <;> first|exact absurd hb ZD9|skip
    all_goals
     clear hb
     go_wp2_with (first
      | (at_builtin;refine aC0 _ rfl _ _ _ rfl w1.heap.size 5 i0 (.int .u8 0) 1 1 Tryz.underlying44 hi0 hz0 hz1' hz2' rfl ZD9 u5 E.length (E.map bv) rfl (Hown.out.alloc _) (some ⟨wr.heap.size,0,none⟩) 1 1 [bv (UInt8.ofNat v.length)] rfl rfl ZG8 ZG3 ZD2 AO ZC8 ?_;intro v1 w3 hown1 hg1 hat1;have hz3:=hg1.size;simp at hz3;have hbA:=aA6 (Hown.out.alloc _) hg1 ZC8)
      | (at_builtin;refine aC0 _ rfl _ _ _ rfl w1.heap.size 5 i0 (.int .u8 0) 1 1 Tryz.underlying44 hi0 hz0 hz1' hz2' rfl ZD9 v1 (E.length+1) _ rfl hown1 D v.length d (v.map bv) rfl ZH2 (SL.bsrc (S:=Lo w1.heap.size) ((Hp.out.bsame (aC.of_low ((Below.refl _ _).alloc AO _))).bsame (aC.of_low hbA))) (aI3 v) ZD2 AO AO ?_;intro v2 w4 hown2 hg2 hat2;have hbB:=aA6 hown1 hg2 AO))
     go_roundw
     case rel =>
      refine⟨4,v2,AO,by go_num,rfl,?_,((Hbel.out.alloc AO _).trans hbA).trans hbB⟩
      rw[Hnx.out]
      have e:E.length+1+v.length=(E++lpS (aV ⟨k,n,e,l,v⟩ 3)).length:=by simp[lpS,aV];omega
      rw[← e]
      simpa [lpS,aV,List.map_append] using hown2
     case measure=>simp[intOf]
   ·have Hnn:=zh (aP2 (h:=pt) (r:=⟨k,n,e,l,v⟩) (j:=3) AO)
    rcases hH with rfl|rfl|rfl|rfl <;> first|exact absurd ZD9 hb|skip
    all_goals
     clear hb
     go_wp2
     go_roundw
     case rel=>exact⟨4,_,AO,by go_num,rfl,by rw[Hnn.out];exact Hown.out,Hbel.out⟩
     case measure=>simp[intOf]
  ·have hEl:=HL.out 4 AO
   generalize bA pt ⟨k,n,e,l,v⟩ 4=E at *
   go_wp2
   go_ret2
   obtain⟨A9,c9,rfl,hc9,hs9⟩:∃ A c,u5=.slice A E.length c∧E.length≤c∧Bs (aB w1.heap.size) wr A E:=by
    obtain⟨A9,c9,hr,hcc,hbs,_⟩:=bA1 (w:=w1) Hown.out Hb2.out
    exact⟨A9,c9,by cases hr;rfl,hcc,hbs⟩
   exact⟨A9,c9,rfl,hc9,hs9.blo AO,Hbw.out⟩
theorem bS6 (w:World) (hT:bL w) (A B C D:Option Addr) (r:Rq) (a b c d:Nat) (hA:Bs All w A r.name) (hB:Bs All w B r.key) (hC:Bs All w C r.last) (hD:Bs All w D r.value) :
  Calls Tryz.prog 47 #[.agg #[.int .i64 r.kind,.slice A r.name.length a,.slice B r.key.length b,.slice C r.last.length c,.slice D r.value.length d]] w (cI9 w (bK9 r)):=by
 by_cases hf:aQ r=0
 ·have he:bK9 r=(bA (bO r.kind.toNat) r 4,0):=by unfold bK9;rw[if_neg (by simpa using hf)]
  obtain⟨k,hk,h1,h8,hb⟩:=rq_kind hf
  rw[he]
  obtain⟨i,n,e,l,v⟩:=r
  dsimp only at *
  subst hk
  rw[Int.toNat_natCast]
  exact dV5 w hT A B C D n e l v a b c d k hA hB hC hD h1 h8 _ rfl (bH6 (k:=k) h1 h8) hb
 ·have Hv:=zh (show bK9 r=([],aQ r) by unfold bK9;rw[if_pos hf])
  have hf':(aQ r != 0)=true:=by simpa using hf
  have HT:=zh hT
  clear hf hT hA hB hC hD
  go_enter Tryz.func47,Tryz.ntmps47
  go_wp2_with (go_at_call 50;refine (aD7 _ (HT.out.below ?_) A B C D r a b c d).mono ?_;(all_goals try exact BE);rintro e1 w1 ⟨rfl,hb1⟩)
  go_ret2
  rw[Hv.out]
  exact⟨none,0,rfl,zn,SL.nil,(by refine Below.next ?_ hb1 AU;exact BE)⟩
def aS3 (n:Int):Prop:=-9223372036854775808≤n∧n≤9223372036854775807
theorem cJ1 (n:Int) (k:Nat) (h:0≤n):Int.tmod n (k:Int)=((n.toNat % k:Nat):Int):=by
 obtain⟨m,rfl⟩:=Int.eq_ofNat_of_zero_le h
 rw[Int.toNat_natCast,Int.natCast_emod]
 rfl
theorem cP5 (w:World) (n:Int) (k:Nat) (kI:Int) (hkI:kI=k) (hk:0<k) (hk2:k≤1000) (hn:aS3 n) :
  Calls Tryz.prog 48 #[.int .i64 n,.int .i64 kI] w (fun e w'=>e=.returned (.int .i64 (bK1 n k))∧w'=w):=by
 subst hkI
 obtain⟨h1,h2⟩:=hn
 have z0:¬ ((k:Int)=0):=by omega
 have z1:((k:Int)==0)=false:=by simpa using z0
 have z2:¬ ((k:Int)=-1):=by omega
 by_cases hn:n<0
 ·have Hp:=zh (show ((bK1 n k:Nat):Int)=-(Int.tmod (n+1) k) by rw[← Int.neg_tmod];unfold bK1;rw[if_pos hn,cJ1 _ _ AO])
  go_enter Tryz.func48,Tryz.ntmps48
  go_wp2
  go_ret
  exact⟨aM Hp.out.symm,rfl⟩
 ·have Hp:=zh (show ((bK1 n k:Nat):Int)=n % (k:Int) by unfold bK1;rw[if_neg hn,← Int.tmod_eq_emod_of_nonneg AO,cJ1 _ _ AO])
  go_enter Tryz.func48,Tryz.ntmps48
  go_wp2
  go_ret
  exact⟨aM Hp.out.symm,rfl⟩
theorem cX2 (w:World) (n:Int) (k:Nat) (kI:Int) (hkI:kI=k) (hk:0<k) (hk2:k≤1000) (hn:aS3 n) :
  Calls Tryz.prog 21 #[.int .i64 n,.int .i64 kI] w (fun e w'=>e=.returned (.int .i64 (bK1 n k))∧w'=w):=by
 subst hkI
 have h:=cP5 w n k k rfl hk hk2 hn
 go_enter Tryz.func21,Tryz.ntmps21
 go_wp2_with (go_at_call 48;(with_reducible refine h.mono ?_);rintro e w1 ⟨rfl,rfl⟩)
 go_ret
 exact⟨rfl,rfl⟩
def Abc (n:List UInt8):Prop:=n=[97]∨n=[98]∨n=[99]
def ReqFine (g:Gr) (r:Rq):Prop:=aQ r=0∧(g.kind=19→r.kind=8∧r.last=[]∧r.value=[]∧r.name.length=1)∧(r.name=[]∨Abc r.name)∧((r.name=[]∧r.key=[])∨(aI r.name=0∧r.key.length=1))
theorem dI6 {g:Gr} {k:Int} (hk:g.kind=19→k=8) (h:k=1∨k=6∨k=7):ReqFine g ⟨k,[],[],[],[]⟩:=by
 refine⟨?_,fun e=>?_,.inl rfl,.inl ⟨rfl,rfl⟩⟩
 ·rcases h with rfl|rfl|rfl <;> rfl
 ·have:=hk e
  omega
theorem dI7 {g:Gr} {k:Int} {b y:UInt8} {la va:List UInt8} (hk:g.kind=19→k=8) (h:aI [b]=0∧Abc [b]) (hf:((k=2∨k=5∨k=8)∧la=[]∧va=[])∨(k=3∧la.length=1∧va=[])∨(k=4∧la=[]∧va.length=1)):ReqFine g ⟨k,[b],[y],la,va⟩:=by
 have hy:aE [y]=0:=by unfold aE;simp
 refine⟨?_,fun e=>?_,.inr h.2,.inr ⟨h.1,rfl⟩⟩
 ·have hl:la.length=1→aE la=0:=fun e=>by unfold aE;simp[e]
  rcases hf with ⟨rfl|rfl|rfl,rfl,rfl⟩|⟨rfl,h1,rfl⟩|⟨rfl,rfl,h1⟩
  ·simp[aQ,aB4,aA9,aG7,aB0,aG3,aV,bO,hasT,h.1,hy]
  ·simp[aQ,aB4,aA9,aG7,aB0,aG3,aV,bO,hasT,h.1,hy]
  ·simp[aQ,aB4,aA9,aG7,aB0,aG3,aV,bO,hasT,h.1,hy]
  ·simp[aQ,aB4,aA9,aG7,aB0,aG3,aV,bO,hasT,h.1,hy,hl h1]
  ·simp[aQ,aB4,aA9,aG7,aB0,aG3,aV,bO,hasT,h.1,hy,h1]
 ·have:=hk e
  rcases hf with ⟨_,h1,h2⟩|⟨h0,_⟩|⟨h0,_⟩
  ·exact⟨this,h1,h2,rfl⟩
  ·omega
  ·omega
def RetRq1 (g:Gr) (w:World) (e:Ending) (w':World):Prop :=
 ∃ (r:Rq) (A:Option Addr) (a:Nat) (B:Option Addr) (b:Nat) (C:Option Addr) (c:Nat) (D:Option Addr) (d:Nat),e=.returned (.agg #[.int .i64 r.kind,.slice A r.name.length a,.slice B r.key.length b,.slice C r.last.length c,.slice D r.value.length d])∧ReqFine g r∧Bs (aB w.heap.size) w' A r.name∧Bs (aB w.heap.size) w' B r.key∧Bs (aB w.heap.size) w' C r.last∧Bs (aB w.heap.size) w' D r.value∧Below w.heap.size w w'
theorem aJ7 (n:Int) (k:Nat) (kI:Int) (hkI:kI=k) (hk:0<k) (hk2:k≤1000) (hn:aS3 n) :
  ∃ p:Int,(0≤p∧p<kI)∧Hid (∀ w:World,Calls Tryz.prog 21 #[.int .i64 n,.int .i64 kI] w (fun e w'=>e=.returned (.int .i64 p)∧w'=w)) :=
 ⟨((bK1 n k:Nat):Int),by have:=cY1 n hk;omega,zh fun w=>cX2 w n k kI hkI hk hk2 hn⟩
theorem dI8 (n:Int) (hn:aS3 n):∃ p:Int,(0≤p∧p<20)∧Hid (∀ w:World,Calls Tryz.prog 21 #[.int .i64 n,.int .i64 20] w (fun e w'=>e=.returned (.int .i64 p)∧w'=w))∧(n=19→p=19) :=
 ⟨((bK1 n 20:Nat):Int),by have:=cY1 n (show 0<20 by omega);omega,zh fun w=>cX2 w n 20 20 rfl AO AO hn,fun e=>by rw[e];decide⟩
theorem cJ2 (n:Int) (h:0≤n∧n<256):∃ b,Value.int .u8 n=bv b:=by
 refine⟨UInt8.ofNat n.toNat,?_⟩
 unfold bv
 congr 1
 have:n.toNat<256:=by omega
 simp
 omega
theorem dC6 (n:Int) (h:97≤n∧n<100):∃ b,Value.int .u8 (IntKind.u8.wrap n)=bv b∧(aI [b]=0∧Abc [b]):=by
 have:n=97∨n=98∨n=99:=by omega
 rcases this with rfl|rfl|rfl
 ·exact⟨97,rfl,by decide,.inl rfl⟩
 ·exact⟨98,rfl,by decide,.inr (.inl rfl)⟩
 ·exact⟨99,rfl,by decide,.inr (.inr rfl)⟩
theorem aI8 (n:Int):∃ b,Value.int .u8 (IntKind.u8.wrap n)=bv b:=by
 refine⟨UInt8.ofNat (n % 256).toNat,?_⟩
 unfold bv
 congr 1
 have:(n % 256).toNat<256:=by omega
 simp[IntKind.wrap,IntKind.bits,IntKind.signed]
 omega
theorem bL9 {S:Nat→Prop} {w:World} {A:Nat} {x:UInt8} {t:TypeId} (h:w.heap[A]?=some (.cells #[bv x] t (0,0))) (hS:S A):Bs S w (some ⟨A,0,none⟩) [x]:=by
 refine fun _=>⟨A,0,rfl,hS,(Array.getElem?_eq_some_iff.1 h).1,fun i hi=>⟨[bv x],rfl,fun j hj=>?_,?_⟩⟩
 ·have hi':i<1:=hi
  obtain rfl:i=0:=by omega
  obtain rfl:j=0:=by omega
  exact aA h 0
 ·have hi':i<1:=hi
  obtain rfl:i=0:=by omega
  rfl
theorem aB2 (w:World) (a b c:Obj):((((w.alloc a).alloc b).alloc c).drew).heap[w.heap.size]?=some a∧((((w.alloc a).alloc b).alloc c).drew).heap[w.heap.size+1]?=some b∧((((w.alloc a).alloc b).alloc c).drew).heap[w.heap.size+1+1]?=some c∧Below w.heap.size w ((((w.alloc a).alloc b).alloc c).drew)∧((((w.alloc a).alloc b).alloc c).drew).heap.size=w.heap.size+3:=by
 obtain⟨t1,t2,t3,t4⟩:=aM6 w a b
 refine⟨(aB9 ((w.alloc a).alloc b) c AO).trans t1,(aB9 ((w.alloc a).alloc b) c AO).trans t2,?_,(t4.alloc t4.size _).drew,by simp⟩
 have:=aN3 ((w.alloc a).alloc b) c
 rw[t3] at this
 exact this
structure ReqW (w2 WF:World) (nb A B:Nat) (x y:Value):Prop where
 b:Below w2.heap.size w2 WF
 lo:w2.heap.size≤nb
 la:w2.heap.size≤A
 lb:w2.heap.size≤B
 hi:nb<WF.heap.size
 na':A≠nb
 nk':B≠nb
 vx:∃ b,x=bv b∧(aI [b]=0∧Abc [b])
 vy:∃ b,y=bv b
 box:WF.heap[nb]?=some (.cells #[.int .i64 0,.slice (some ⟨A,0,none⟩) 1 1,.slice (some ⟨B,0,none⟩) 1 1,.slice none 0 0,.slice none 0 0] 48 (0,0))
 na:WF.heap[A]?=some (.cells #[x] 5 (0,0))
 nk:WF.heap[B]?=some (.cells #[y] 5 (0,0))
theorem cP6 (w:World) (g:Gr) (h1:aS3 g.kind) (h3:aS3 g.name) (h4:aS3 g.key) (h5:aS3 g.value) :
  Calls Tryz.prog 20 #[.agg #[.int .i64 g.kind,.int .i64 g.session,.int .i64 g.name,.int .i64 g.key,.int .i64 g.value]] w (RetRq1 g w):=by
 obtain⟨p3,hp3,HP3⟩:=aJ7 g.name 3 3 rfl AO AO h3
 obtain⟨p5,_,HP5⟩:=aJ7 g.key 5 5 rfl AO AO h4
 have Hp3:=zh hp3
 clear hp3
 obtain⟨p50,hp50,HV50⟩:=aJ7 g.value 50 50 rfl AO AO h5
 obtain⟨p55,hp55,HV5⟩:=aJ7 g.value 5 5 rfl AO AO h5
 obtain⟨p20,⟨hk0,hk20⟩,HK,h19⟩:=dI8 g.kind h1
 have H19:=zh h19
 clear h19
 go_enter Tryz.func20,Tryz.ntmps20
 go_upto_region 1 with fail
 obtain⟨t1,t2,t3,t4⟩:=aM6 w (.cells #[.int .i64 g.kind,.int .i64 g.session,.int .i64 g.name,.int .i64 g.key,.int .i64 g.value] 74) (.cells #[.int .i64 0,.slice none 0 0,.slice none 0 0,.slice none 0 0,.slice none 0 0] 48)
 obtain⟨w2,hw2⟩:∃ w2,w2=(w.alloc (.cells #[.int .i64 g.kind,.int .i64 g.session,.int .i64 g.name,.int .i64 g.key,.int .i64 g.value] 74)).alloc (.cells #[.int .i64 0,.slice none 0 0,.slice none 0 0,.slice none 0 0,.slice none 0 0] 48):=⟨_,rfl⟩
 rw[← hw2] at t1 t2 t3 t4 ⊢
 obtain⟨rb,hrb⟩:∃ rb,rb=w.heap.size+1:=⟨_,rfl⟩
 rw[← hrb] at t2 ⊢
 obtain⟨gb,hgb⟩:∃ gb,gb=w.heap.size:=⟨_,rfl⟩
 rw[← hgb] at t1 ⊢
 have g2:=aA t1 2
 have g3:=aA t1 3
 simp only[List.getElem?_cons_zero,List.getElem?_cons_succ] at g2 g3
 have lg:gb<w2.heap.size:=by omega
 have HL:=zh (And.intro lg (show rb<w2.heap.size∧gb≠rb∧w.heap.size≤gb∧w.heap.size≤rb by omega))
 have T1:=zh t1
 have T2:=zh t2
 have T4:=zh t4
 clear t1 t2 t3 t4 hw2 hrb hgb
 go_cut [3] from 5 to 17 (fun s3 wx=>∃ nb A B x y,s3=.pointer (some ⟨nb,0,none⟩)∧ReqW w2 wx nb A B x y)
 case first =>
  go_region_held3 (fun w'=>w'.cell? ⟨gb,2,none⟩=some (.int .i64 g.name)∧w'.cell? ⟨gb,3,none⟩=some (.int .i64 g.key))
   (first
    | with_reducible exact⟨((Below.refl w2.heap.size w2).drew.cell lg).trans g2,((Below.refl w2.heap.size w2).drew.cell lg).trans g3⟩
    | with_reducible exact⟨(((Below.refl w2.heap.size w2).alloc ZC7 _).drew.cell lg).trans g2,(((Below.refl w2.heap.size w2).alloc ZC7 _).drew.cell lg).trans g3⟩
    | with_reducible exact⟨(((Below.refl w2.heap.size w2).drew.alloc ZC7 _).cell lg).trans g2,(((Below.refl w2.heap.size w2).drew.alloc ZC7 _).cell lg).trans g3⟩
    | with_reducible exact⟨((((Below.refl w2.heap.size w2).alloc ZC7 _).alloc ZC7 _).drew.cell lg).trans g2,((((Below.refl w2.heap.size w2).alloc ZC7 _).alloc ZC7 _).drew.cell lg).trans g3⟩
    | with_reducible exact⟨((((Below.refl w2.heap.size w2).drew.alloc ZC7 _).alloc ZC7 _).cell lg).trans g2,((((Below.refl w2.heap.size w2).drew.alloc ZC7 _).alloc ZC7 _).cell lg).trans g3⟩
    | with_reducible exact⟨(((((Below.refl w2.heap.size w2).alloc ZC7 _).alloc ZC7 _).alloc ZC7 _).drew.cell lg).trans g2,(((((Below.refl w2.heap.size w2).alloc ZC7 _).alloc ZC7 _).alloc ZC7 _).drew.cell lg).trans g3⟩
    | with_reducible exact⟨(((((Below.refl w2.heap.size w2).drew.alloc ZC7 _).alloc ZC7 _).alloc ZC7 _).cell lg).trans g2,(((((Below.refl w2.heap.size w2).drew.alloc ZC7 _).alloc ZC7 _).alloc ZC7 _).cell lg).trans g3⟩
    | go_keep)
   (first
    | (go_at_call 21;(with_reducible refine (HP3.out _).mono ?_);rintro e w3 ⟨rfl,rfl⟩)
    | (go_at_call 21;(with_reducible refine (HP5.out _).mono ?_);rintro e w3 ⟨rfl,rfl⟩))
  all_goals
   go_wp2_with fail
   go_meet
   first
    | exact⟨w2.heap.size,w2.heap.size+1,w2.heap.size+1+1,_,_,rfl,⟨(aB2 w2 _ _ _).2.2.2.1,AO,by omega,AO,by rw[(aB2 w2 _ _ _).2.2.2.2];omega,AO,by omega,dC6 _ ZG4,aI8 _,(aB2 w2 _ _ _).1,(aB2 w2 _ _ _).2.1,(aB2 w2 _ _ _).2.2.1⟩⟩
    | exact⟨w2.heap.size,w2.heap.size+1+1,w2.heap.size+1,_,_,rfl,⟨(aB2 w2 _ _ _).2.2.2.1,AO,by omega,AO,by rw[(aB2 w2 _ _ _).2.2.2.2];omega,AO,by omega,dC6 _ ZG4,aI8 _,(aB2 w2 _ _ _).1,(aB2 w2 _ _ _).2.2.1,(aB2 w2 _ _ _).2.1⟩⟩
    | exact⟨w2.heap.size+1,w2.heap.size,w2.heap.size+1+1,_,_,rfl,⟨(aB2 w2 _ _ _).2.2.2.1,AO,by omega,AO,by rw[(aB2 w2 _ _ _).2.2.2.2];omega,AO,by omega,dC6 _ ZG4,aI8 _,(aB2 w2 _ _ _).2.1,(aB2 w2 _ _ _).1,(aB2 w2 _ _ _).2.2.1⟩⟩
    | exact⟨w2.heap.size+1,w2.heap.size+1+1,w2.heap.size,_,_,rfl,⟨(aB2 w2 _ _ _).2.2.2.1,AO,by omega,AO,by rw[(aB2 w2 _ _ _).2.2.2.2];omega,AO,by omega,dC6 _ ZG4,aI8 _,(aB2 w2 _ _ _).2.1,(aB2 w2 _ _ _).2.2.1,(aB2 w2 _ _ _).1⟩⟩
    | exact⟨w2.heap.size+1+1,w2.heap.size,w2.heap.size+1,_,_,rfl,⟨(aB2 w2 _ _ _).2.2.2.1,AO,by omega,AO,by rw[(aB2 w2 _ _ _).2.2.2.2];omega,AO,by omega,dC6 _ ZG4,aI8 _,(aB2 w2 _ _ _).2.2.1,(aB2 w2 _ _ _).1,(aB2 w2 _ _ _).2.1⟩⟩
    | exact⟨w2.heap.size+1+1,w2.heap.size+1,w2.heap.size,_,_,rfl,⟨(aB2 w2 _ _ _).2.2.2.1,AO,by omega,AO,by rw[(aB2 w2 _ _ _).2.2.2.2];omega,AO,by omega,dC6 _ ZG4,aI8 _,(aB2 w2 _ _ _).2.2.1,(aB2 w2 _ _ _).2.1,(aB2 w2 _ _ _).1⟩⟩
 case rest =>
 obtain⟨nb,A,B,x,y,rfl,hR⟩:=hcut
 obtain⟨WF,rfl⟩:∃ WF,WF=wc:=⟨wc,rfl⟩
 skip
 have rbx:=(hR.b.block rb HL.out.2.1).trans T2.out
 have gbx:=(hR.b.block gb HL.out.1).trans T1.out
 have c0:=aA gbx 0
 have c4:=aA gbx 4
 have z0:=aA hR.box 0
 have y0:=aD hR.box 0
 have r0:=aA rbx 0
 have f0:=aD rbx 0
 have z1:=aA hR.box 1
 have y1:=aD hR.box 1
 have r1:=aA rbx 1
 have f1:=aD rbx 1
 have z2:=aA hR.box 2
 have y2:=aD hR.box 2
 have r2:=aA rbx 2
 have f2:=aD rbx 2
 have z3:=aA hR.box 3
 have y3:=aD hR.box 3
 have r3:=aA rbx 3
 have f3:=aD rbx 3
 have z4:=aA hR.box 4
 have y4:=aD hR.box 4
 have r4:=aA rbx 4
 have f4:=aD rbx 4
 simp only[List.getElem?_cons_zero,List.getElem?_cons_succ] at c0 c4 z0 z1 z2 z3 z4 r0 r1 r2 r3 r4
 have n1:¬ (nb=rb):=by have:=hR.lo;have:=HL.out.2.1;omega
 have n1':¬ (rb=nb):=by have:=hR.lo;have:=HL.out.2.1;omega
 have n2:¬ (nb=gb):=by have:=hR.lo;have:=HL.out.1;omega
 have n2':¬ (gb=nb):=by have:=hR.lo;have:=HL.out.1;omega
 have n3:¬ (gb=rb):=HL.out.2.2.1
 have n3':¬ (rb=gb):=fun h=>HL.out.2.2.1 h.symm
 have HRR:=zh hR
 clear hR rbx gbx
 have hcase:p20<4∨(4≤p20∧p20<7)∨p20=7∨(8≤p20∧p20<12)∨p20=12∨(13≤p20∧p20<17)∨p20=17∨18≤p20:=by omega
 have hbF:Below w.heap.size w WF:=T4.out.next HRR.out.b T4.out.size
 have HbF:=zh hbF
 have hwn:w.heap.size≤nb:=Nat.le_trans T4.out.size HRR.out.lo
 have hwr:w.heap.size≤rb:=HL.out.2.2.2.2
 have hnF:nb<WF.heap.size:=HRR.out.hi
 have hrF:rb<WF.heap.size:=Nat.lt_of_lt_of_le HL.out.2.1 HRR.out.b.size
 have hwF:w.heap.size≤WF.heap.size:=hbF.size
 obtain⟨bx,hbx,hnx⟩:=HRR.out.vx
 have Hnx:=zh hnx
 clear hnx
 obtain⟨by',hby⟩:=HRR.out.vy
 have HA:=zh (show Bs (fun b=>aB w.heap.size b∧b≠nb∧b≠rb) WF (some ⟨A,0,none⟩) [bx] from bL9 (by rw[← hbx];exact HRR.out.na) ⟨Nat.le_trans T4.out.size HRR.out.la,HRR.out.na',by have:=HRR.out.la;have:=HL.out.2.1;omega⟩)
 have HB:=zh (show Bs (fun b=>aB w.heap.size b∧b≠nb∧b≠rb) WF (some ⟨B,0,none⟩) [by'] from bL9 (by rw[← hby];exact HRR.out.nk) ⟨Nat.le_trans T4.out.size HRR.out.lb,HRR.out.nk',by have:=HRR.out.lb;have:=HL.out.2.1;omega⟩)
 clear hbF hbx hby
 rcases hcase with h|⟨h,h'⟩|rfl|⟨h,h'⟩|rfl|⟨h,h'⟩|rfl|h
 ·go_wp2_with (first|(go_at_call 21;(with_reducible refine (HK.out _).mono ?_);rintro e wz ⟨rfl,hwz⟩;have hwz:=hwz.symm;subst hwz)|(go_at_call 21;(with_reducible refine (HV5.out _).mono ?_);rintro e wz ⟨rfl,hwz⟩;have hwz:=hwz.symm;subst hwz)|(go_at_call 21;(with_reducible refine (HV50.out _).mono ?_);rintro e wz ⟨rfl,hwz⟩;have hwz:=hwz.symm;subst hwz))
  refine bodyPost_ret (v:=.agg #[.int .i64 1,.slice none 0 0,.slice none 0 0,.slice none 0 0,.slice none 0 0]) (by simp[results,Tryz.results20,go_sem,r0,r1,r2,r3,r4]) rfl ?_
  exact⟨⟨1,[],[],[],[]⟩,none,0,none,0,none,0,none,0,rfl,dI6 ZG9 ZH2,SL.nil,SL.nil,SL.nil,SL.nil,(((((HbF.out.setCell (p:=⟨rb,0,none⟩) hwr _).setCell (p:=⟨rb,1,none⟩) hwr _).setCell (p:=⟨rb,2,none⟩) hwr _).setCell (p:=⟨rb,3,none⟩) hwr _).setCell (p:=⟨rb,4,none⟩) hwr _)⟩
 ·go_wp2_with (first|(go_at_call 21;(with_reducible refine (HK.out _).mono ?_);rintro e wz ⟨rfl,hwz⟩;have hwz:=hwz.symm;subst hwz)|(go_at_call 21;(with_reducible refine (HV5.out _).mono ?_);rintro e wz ⟨rfl,hwz⟩;have hwz:=hwz.symm;subst hwz)|(go_at_call 21;(with_reducible refine (HV50.out _).mono ?_);rintro e wz ⟨rfl,hwz⟩;have hwz:=hwz.symm;subst hwz))
  refine bodyPost_ret (v:=.agg #[.int .i64 2,.slice (some ⟨A,0,none⟩) 1 1,.slice (some ⟨B,0,none⟩) 1 1,.slice none 0 0,.slice none 0 0]) (by simp[results,Tryz.results20,go_sem,r0,r1,r2,r3,r4]) rfl ?_
  exact⟨⟨2,[bx],[by'],[],[]⟩,some ⟨A,0,none⟩,1,some ⟨B,0,none⟩,1,none,0,none,0,rfl,dI7 ZG9 Hnx.out ZH2,((HA.out.bsame (((((((aC.refl _ WF).setCell (p:=⟨nb,0,none⟩) (fun h=>h.2.1 rfl) _).setCell (p:=⟨rb,0,none⟩) (fun h=>h.2.2 rfl) _).setCell (p:=⟨rb,1,none⟩) (fun h=>h.2.2 rfl) _).setCell (p:=⟨rb,2,none⟩) (fun h=>h.2.2 rfl) _).setCell (p:=⟨rb,3,none⟩) (fun h=>h.2.2 rfl) _).setCell (p:=⟨rb,4,none⟩) (fun h=>h.2.2 rfl) _)).bless fun b _ h=>h.1),((HB.out.bsame (((((((aC.refl _ WF).setCell (p:=⟨nb,0,none⟩) (fun h=>h.2.1 rfl) _).setCell (p:=⟨rb,0,none⟩) (fun h=>h.2.2 rfl) _).setCell (p:=⟨rb,1,none⟩) (fun h=>h.2.2 rfl) _).setCell (p:=⟨rb,2,none⟩) (fun h=>h.2.2 rfl) _).setCell (p:=⟨rb,3,none⟩) (fun h=>h.2.2 rfl) _).setCell (p:=⟨rb,4,none⟩) (fun h=>h.2.2 rfl) _)).bless fun b _ h=>h.1),SL.nil,SL.nil,((((((HbF.out.setCell (p:=⟨nb,0,none⟩) hwn _).setCell (p:=⟨rb,0,none⟩) hwr _).setCell (p:=⟨rb,1,none⟩) hwr _).setCell (p:=⟨rb,2,none⟩) hwr _).setCell (p:=⟨rb,3,none⟩) hwr _).setCell (p:=⟨rb,4,none⟩) hwr _)⟩
 ·have hX1:((WF.setCell ⟨nb,0,none⟩ (.int .i64 3)).alloc (.cells #[.int .u8 (107+p55)] 5)).heap[nb]?=some (.cells #[.int .i64 3,.slice (some ⟨A,0,none⟩) 1 1,.slice (some ⟨B,0,none⟩) 1 1,.slice none 0 0,.slice none 0 0] 48 (0,0)):=(aB9 (WF.setCell ⟨nb,0,none⟩ (.int .i64 3)) (.cells #[.int .u8 (107+p55)] 5) (by simpa [World.setCell] using hnF)).trans (heap_setCell_same WF nb 0 _ _ _ HRR.out.box)
  have hX2:((WF.setCell ⟨nb,0,none⟩ (.int .i64 3)).alloc (.cells #[.int .u8 (107+p55)] 5)).heap[rb]?=some (.cells #[.int .i64 0,.slice none 0 0,.slice none 0 0,.slice none 0 0,.slice none 0 0] 48 (0,0)):=(aB9 (WF.setCell ⟨nb,0,none⟩ (.int .i64 3)) (.cells #[.int .u8 (107+p55)] 5) (by simpa [World.setCell] using hrF)).trans (((aD1 WF nb 0 (.int .i64 3)).block rb n1' hrF).trans ((HRR.out.b.block rb HL.out.2.1).trans T2.out))
  have z0:=aA hX1 0
  have y0:=aD hX1 0
  have r0:=aA hX2 0
  have f0:=aD hX2 0
  have z1:=aA hX1 1
  have y1:=aD hX1 1
  have r1:=aA hX2 1
  have f1:=aD hX2 1
  have z2:=aA hX1 2
  have y2:=aD hX1 2
  have r2:=aA hX2 2
  have f2:=aD hX2 2
  have z3:=aA hX1 3
  have y3:=aD hX1 3
  have r3:=aA hX2 3
  have f3:=aD hX2 3
  have z4:=aA hX1 4
  have y4:=aD hX1 4
  have r4:=aA hX2 4
  have f4:=aD hX2 4
  simp only[List.getElem?_cons_zero,List.getElem?_cons_succ] at z0 z1 z2 z3 z4 r0 r1 r2 r3 r4
  obtain⟨bl,hbl⟩:=cJ2 (107+p55) AO
  have Hbl:=zh hbl
  clear hX1 hX2 hbl
  go_wp2_with (first|(go_at_call 21;(with_reducible refine (HK.out _).mono ?_);rintro e wz ⟨rfl,hwz⟩;have hwz:=hwz.symm;subst hwz)|(go_at_call 21;(with_reducible refine (HV5.out _).mono ?_);rintro e wz ⟨rfl,hwz⟩;have hwz:=hwz.symm;subst hwz)|(go_at_call 21;(with_reducible refine (HV50.out _).mono ?_);rintro e wz ⟨rfl,hwz⟩;have hwz:=hwz.symm;subst hwz))
  obtain⟨WE,hWE⟩:∃ WE,WE=(((((((WF.setCell ⟨nb,0,none⟩ (.int .i64 3)).setCell ⟨nb,3,none⟩ (.slice (some ⟨WF.heap.size,0,none⟩) 1 1)).setCell ⟨rb,0,none⟩ (.int .i64 3)).setCell ⟨rb,1,none⟩ (.slice (some ⟨A,0,none⟩) 1 1)).setCell ⟨rb,2,none⟩ (.slice (some ⟨B,0,none⟩) 1 1)).setCell ⟨rb,3,none⟩ (.slice (some ⟨WF.heap.size,0,none⟩) 1 1)).setCell ⟨rb,4,none⟩ (.slice none 0 0)).alloc (.cells #[.int .u8 (107+p55)] 5):=⟨_,rfl⟩
  rw[← hWE]
  have hE:WE.heap[rb]?=some (.cells #[.int .i64 3,.slice (some ⟨A,0,none⟩) 1 1,.slice (some ⟨B,0,none⟩) 1 1,.slice (some ⟨WF.heap.size,0,none⟩) 1 1,.slice none 0 0] 48 (0,0)):=by
   rw[hWE]
   exact (aB9 _ _ (by simpa [World.setCell] using hrF)).trans (heap_setCell_same _ rb 4 _ _ _ (heap_setCell_same _ rb 3 _ _ _ (heap_setCell_same _ rb 2 _ _ _ (heap_setCell_same _ rb 1 _ _ _ (heap_setCell_same _ rb 0 _ _ _ (((aD1 (WF.setCell ⟨nb,0,none⟩ (.int .i64 3)) nb 3 (.slice (some ⟨WF.heap.size,0,none⟩) 1 1)).block rb n1' (by simpa [World.setCell] using hrF)).trans (((aD1 WF nb 0 (.int .i64 3)).block rb n1' hrF).trans ((HRR.out.b.block rb HL.out.2.1).trans T2.out))))))))
  have e0:=aA hE 0
  have e1:=aA hE 1
  have e2:=aA hE 2
  have e3:=aA hE 3
  have e4:=aA hE 4
  simp only[List.getElem?_cons_zero,List.getElem?_cons_succ] at e0 e1 e2 e3 e4
  have hs1:aC (fun b=>aB w.heap.size b∧b≠nb∧b≠rb) WF WE:=by
   rw[hWE]
   exact ((((((((aC.refl _ WF).setCell (p:=⟨nb,0,none⟩) (fun h=>h.2.1 rfl) _).setCell (p:=⟨nb,3,none⟩) (fun h=>h.2.1 rfl) _).setCell (p:=⟨rb,0,none⟩) (fun h=>h.2.2 rfl) _).setCell (p:=⟨rb,1,none⟩) (fun h=>h.2.2 rfl) _).setCell (p:=⟨rb,2,none⟩) (fun h=>h.2.2 rfl) _).setCell (p:=⟨rb,3,none⟩) (fun h=>h.2.2 rfl) _).setCell (p:=⟨rb,4,none⟩) (fun h=>h.2.2 rfl) _).alloc _
  have hb1:Below w.heap.size w WE:=by
   rw[hWE]
   exact (((((((HbF.out.setCell (p:=⟨nb,0,none⟩) hwn _).setCell (p:=⟨nb,3,none⟩) hwn _).setCell (p:=⟨rb,0,none⟩) hwr _).setCell (p:=⟨rb,1,none⟩) hwr _).setCell (p:=⟨rb,2,none⟩) hwr _).setCell (p:=⟨rb,3,none⟩) hwr _).setCell (p:=⟨rb,4,none⟩) hwr _).alloc (by simp[World.setCell];exact hwF) _
  have hz:WE.heap[WF.heap.size]?=some (.cells #[bv bl] 5 (0,0)):=by
   have h9:=aK (((((((WF.setCell ⟨nb,0,none⟩ (.int .i64 3)).setCell ⟨nb,3,none⟩ (.slice (some ⟨WF.heap.size,0,none⟩) 1 1)).setCell ⟨rb,0,none⟩ (.int .i64 3)).setCell ⟨rb,1,none⟩ (.slice (some ⟨A,0,none⟩) 1 1)).setCell ⟨rb,2,none⟩ (.slice (some ⟨B,0,none⟩) 1 1)).setCell ⟨rb,3,none⟩ (.slice (some ⟨WF.heap.size,0,none⟩) 1 1)).setCell ⟨rb,4,none⟩ (.slice none 0 0)) #[.int .u8 (107+p55)] 5
   rw[show (((((((WF.setCell ⟨nb,0,none⟩ (.int .i64 3)).setCell ⟨nb,3,none⟩ (.slice (some ⟨WF.heap.size,0,none⟩) 1 1)).setCell ⟨rb,0,none⟩ (.int .i64 3)).setCell ⟨rb,1,none⟩ (.slice (some ⟨A,0,none⟩) 1 1)).setCell ⟨rb,2,none⟩ (.slice (some ⟨B,0,none⟩) 1 1)).setCell ⟨rb,3,none⟩ (.slice (some ⟨WF.heap.size,0,none⟩) 1 1)).setCell ⟨rb,4,none⟩ (.slice none 0 0)).heap.size=WF.heap.size by simp[World.setCell]] at h9
   rw[hWE,← Hbl.out]
   exact h9
  refine bodyPost_ret (v:=.agg #[.int .i64 3,.slice (some ⟨A,0,none⟩) 1 1,.slice (some ⟨B,0,none⟩) 1 1,.slice (some ⟨WF.heap.size,0,none⟩) 1 1,.slice none 0 0]) (by simp[results,Tryz.results20,go_sem,e0,e1,e2,e3,e4]) rfl ?_
  exact⟨⟨3,[bx],[by'],[bl],[]⟩,some ⟨A,0,none⟩,1,some ⟨B,0,none⟩,1,some ⟨WF.heap.size,0,none⟩,1,none,0,rfl,dI7 ZG9 Hnx.out ZH2,(HA.out.bsame hs1).bless fun b _ h=>h.1,(HB.out.bsame hs1).bless fun b _ h=>h.1,bL9 hz hwF,SL.nil,hb1⟩
 ·have hX1:((WF.setCell ⟨nb,0,none⟩ (.int .i64 4)).alloc (.cells #[.int .u8 p50] 5)).heap[nb]?=some (.cells #[.int .i64 4,.slice (some ⟨A,0,none⟩) 1 1,.slice (some ⟨B,0,none⟩) 1 1,.slice none 0 0,.slice none 0 0] 48 (0,0)):=(aB9 (WF.setCell ⟨nb,0,none⟩ (.int .i64 4)) (.cells #[.int .u8 p50] 5) (by simpa [World.setCell] using hnF)).trans (heap_setCell_same WF nb 0 _ _ _ HRR.out.box)
  have hX2:((WF.setCell ⟨nb,0,none⟩ (.int .i64 4)).alloc (.cells #[.int .u8 p50] 5)).heap[rb]?=some (.cells #[.int .i64 0,.slice none 0 0,.slice none 0 0,.slice none 0 0,.slice none 0 0] 48 (0,0)):=(aB9 (WF.setCell ⟨nb,0,none⟩ (.int .i64 4)) (.cells #[.int .u8 p50] 5) (by simpa [World.setCell] using hrF)).trans (((aD1 WF nb 0 (.int .i64 4)).block rb n1' hrF).trans ((HRR.out.b.block rb HL.out.2.1).trans T2.out))
  have z0:=aA hX1 0
  have y0:=aD hX1 0
  have r0:=aA hX2 0
  have f0:=aD hX2 0
  have z1:=aA hX1 1
  have y1:=aD hX1 1
  have r1:=aA hX2 1
  have f1:=aD hX2 1
  have z2:=aA hX1 2
  have y2:=aD hX1 2
  have r2:=aA hX2 2
  have f2:=aD hX2 2
  have z3:=aA hX1 3
  have y3:=aD hX1 3
  have r3:=aA hX2 3
  have f3:=aD hX2 3
  have z4:=aA hX1 4
  have y4:=aD hX1 4
  have r4:=aA hX2 4
  have f4:=aD hX2 4
  simp only[List.getElem?_cons_zero,List.getElem?_cons_succ] at z0 z1 z2 z3 z4 r0 r1 r2 r3 r4
  obtain⟨bl,hbl⟩:=cJ2 p50 AO
  have Hbl:=zh hbl
  clear hX1 hX2 hbl
  go_wp2_with (first|(go_at_call 21;(with_reducible refine (HK.out _).mono ?_);rintro e wz ⟨rfl,hwz⟩;have hwz:=hwz.symm;subst hwz)|(go_at_call 21;(with_reducible refine (HV5.out _).mono ?_);rintro e wz ⟨rfl,hwz⟩;have hwz:=hwz.symm;subst hwz)|(go_at_call 21;(with_reducible refine (HV50.out _).mono ?_);rintro e wz ⟨rfl,hwz⟩;have hwz:=hwz.symm;subst hwz))
  obtain⟨WE,hWE⟩:∃ WE,WE=(((((((WF.setCell ⟨nb,0,none⟩ (.int .i64 4)).setCell ⟨nb,4,none⟩ (.slice (some ⟨WF.heap.size,0,none⟩) 1 1)).setCell ⟨rb,0,none⟩ (.int .i64 4)).setCell ⟨rb,1,none⟩ (.slice (some ⟨A,0,none⟩) 1 1)).setCell ⟨rb,2,none⟩ (.slice (some ⟨B,0,none⟩) 1 1)).setCell ⟨rb,3,none⟩ (.slice none 0 0)).setCell ⟨rb,4,none⟩ (.slice (some ⟨WF.heap.size,0,none⟩) 1 1)).alloc (.cells #[.int .u8 p50] 5):=⟨_,rfl⟩
  rw[← hWE]
  have hE:WE.heap[rb]?=some (.cells #[.int .i64 4,.slice (some ⟨A,0,none⟩) 1 1,.slice (some ⟨B,0,none⟩) 1 1,.slice none 0 0,.slice (some ⟨WF.heap.size,0,none⟩) 1 1] 48 (0,0)):=by
   rw[hWE]
   exact (aB9 _ _ (by simpa [World.setCell] using hrF)).trans (heap_setCell_same _ rb 4 _ _ _ (heap_setCell_same _ rb 3 _ _ _ (heap_setCell_same _ rb 2 _ _ _ (heap_setCell_same _ rb 1 _ _ _ (heap_setCell_same _ rb 0 _ _ _ (((aD1 (WF.setCell ⟨nb,0,none⟩ (.int .i64 4)) nb 4 (.slice (some ⟨WF.heap.size,0,none⟩) 1 1)).block rb n1' (by simpa [World.setCell] using hrF)).trans (((aD1 WF nb 0 (.int .i64 4)).block rb n1' hrF).trans ((HRR.out.b.block rb HL.out.2.1).trans T2.out))))))))
  have e0:=aA hE 0
  have e1:=aA hE 1
  have e2:=aA hE 2
  have e3:=aA hE 3
  have e4:=aA hE 4
  simp only[List.getElem?_cons_zero,List.getElem?_cons_succ] at e0 e1 e2 e3 e4
  have hs1:aC (fun b=>aB w.heap.size b∧b≠nb∧b≠rb) WF WE:=by
   rw[hWE]
   exact ((((((((aC.refl _ WF).setCell (p:=⟨nb,0,none⟩) (fun h=>h.2.1 rfl) _).setCell (p:=⟨nb,4,none⟩) (fun h=>h.2.1 rfl) _).setCell (p:=⟨rb,0,none⟩) (fun h=>h.2.2 rfl) _).setCell (p:=⟨rb,1,none⟩) (fun h=>h.2.2 rfl) _).setCell (p:=⟨rb,2,none⟩) (fun h=>h.2.2 rfl) _).setCell (p:=⟨rb,3,none⟩) (fun h=>h.2.2 rfl) _).setCell (p:=⟨rb,4,none⟩) (fun h=>h.2.2 rfl) _).alloc _
  have hb1:Below w.heap.size w WE:=by
   rw[hWE]
   exact (((((((HbF.out.setCell (p:=⟨nb,0,none⟩) hwn _).setCell (p:=⟨nb,4,none⟩) hwn _).setCell (p:=⟨rb,0,none⟩) hwr _).setCell (p:=⟨rb,1,none⟩) hwr _).setCell (p:=⟨rb,2,none⟩) hwr _).setCell (p:=⟨rb,3,none⟩) hwr _).setCell (p:=⟨rb,4,none⟩) hwr _).alloc (by simp[World.setCell];exact hwF) _
  have hz:WE.heap[WF.heap.size]?=some (.cells #[bv bl] 5 (0,0)):=by
   have h9:=aK (((((((WF.setCell ⟨nb,0,none⟩ (.int .i64 4)).setCell ⟨nb,4,none⟩ (.slice (some ⟨WF.heap.size,0,none⟩) 1 1)).setCell ⟨rb,0,none⟩ (.int .i64 4)).setCell ⟨rb,1,none⟩ (.slice (some ⟨A,0,none⟩) 1 1)).setCell ⟨rb,2,none⟩ (.slice (some ⟨B,0,none⟩) 1 1)).setCell ⟨rb,3,none⟩ (.slice none 0 0)).setCell ⟨rb,4,none⟩ (.slice (some ⟨WF.heap.size,0,none⟩) 1 1)) #[.int .u8 p50] 5
   rw[show (((((((WF.setCell ⟨nb,0,none⟩ (.int .i64 4)).setCell ⟨nb,4,none⟩ (.slice (some ⟨WF.heap.size,0,none⟩) 1 1)).setCell ⟨rb,0,none⟩ (.int .i64 4)).setCell ⟨rb,1,none⟩ (.slice (some ⟨A,0,none⟩) 1 1)).setCell ⟨rb,2,none⟩ (.slice (some ⟨B,0,none⟩) 1 1)).setCell ⟨rb,3,none⟩ (.slice none 0 0)).setCell ⟨rb,4,none⟩ (.slice (some ⟨WF.heap.size,0,none⟩) 1 1)).heap.size=WF.heap.size by simp[World.setCell]] at h9
   rw[hWE,← Hbl.out]
   exact h9
  refine bodyPost_ret (v:=.agg #[.int .i64 4,.slice (some ⟨A,0,none⟩) 1 1,.slice (some ⟨B,0,none⟩) 1 1,.slice none 0 0,.slice (some ⟨WF.heap.size,0,none⟩) 1 1]) (by simp[results,Tryz.results20,go_sem,e0,e1,e2,e3,e4]) rfl ?_
  exact⟨⟨4,[bx],[by'],[],[bl]⟩,some ⟨A,0,none⟩,1,some ⟨B,0,none⟩,1,none,0,some ⟨WF.heap.size,0,none⟩,1,rfl,dI7 ZG9 Hnx.out ZH2,(HA.out.bsame hs1).bless fun b _ h=>h.1,(HB.out.bsame hs1).bless fun b _ h=>h.1,SL.nil,bL9 hz hwF,hb1⟩
 ·go_wp2_with (first|(go_at_call 21;(with_reducible refine (HK.out _).mono ?_);rintro e wz ⟨rfl,hwz⟩;have hwz:=hwz.symm;subst hwz)|(go_at_call 21;(with_reducible refine (HV5.out _).mono ?_);rintro e wz ⟨rfl,hwz⟩;have hwz:=hwz.symm;subst hwz)|(go_at_call 21;(with_reducible refine (HV50.out _).mono ?_);rintro e wz ⟨rfl,hwz⟩;have hwz:=hwz.symm;subst hwz))
  refine bodyPost_ret (v:=.agg #[.int .i64 5,.slice (some ⟨A,0,none⟩) 1 1,.slice (some ⟨B,0,none⟩) 1 1,.slice none 0 0,.slice none 0 0]) (by simp[results,Tryz.results20,go_sem,r0,r1,r2,r3,r4]) rfl ?_
  exact⟨⟨5,[bx],[by'],[],[]⟩,some ⟨A,0,none⟩,1,some ⟨B,0,none⟩,1,none,0,none,0,rfl,dI7 ZG9 Hnx.out ZH2,((HA.out.bsame (((((((aC.refl _ WF).setCell (p:=⟨nb,0,none⟩) (fun h=>h.2.1 rfl) _).setCell (p:=⟨rb,0,none⟩) (fun h=>h.2.2 rfl) _).setCell (p:=⟨rb,1,none⟩) (fun h=>h.2.2 rfl) _).setCell (p:=⟨rb,2,none⟩) (fun h=>h.2.2 rfl) _).setCell (p:=⟨rb,3,none⟩) (fun h=>h.2.2 rfl) _).setCell (p:=⟨rb,4,none⟩) (fun h=>h.2.2 rfl) _)).bless fun b _ h=>h.1),((HB.out.bsame (((((((aC.refl _ WF).setCell (p:=⟨nb,0,none⟩) (fun h=>h.2.1 rfl) _).setCell (p:=⟨rb,0,none⟩) (fun h=>h.2.2 rfl) _).setCell (p:=⟨rb,1,none⟩) (fun h=>h.2.2 rfl) _).setCell (p:=⟨rb,2,none⟩) (fun h=>h.2.2 rfl) _).setCell (p:=⟨rb,3,none⟩) (fun h=>h.2.2 rfl) _).setCell (p:=⟨rb,4,none⟩) (fun h=>h.2.2 rfl) _)).bless fun b _ h=>h.1),SL.nil,SL.nil,((((((HbF.out.setCell (p:=⟨nb,0,none⟩) hwn _).setCell (p:=⟨rb,0,none⟩) hwr _).setCell (p:=⟨rb,1,none⟩) hwr _).setCell (p:=⟨rb,2,none⟩) hwr _).setCell (p:=⟨rb,3,none⟩) hwr _).setCell (p:=⟨rb,4,none⟩) hwr _)⟩
 ·go_wp2_with (first|(go_at_call 21;(with_reducible refine (HK.out _).mono ?_);rintro e wz ⟨rfl,hwz⟩;have hwz:=hwz.symm;subst hwz)|(go_at_call 21;(with_reducible refine (HV5.out _).mono ?_);rintro e wz ⟨rfl,hwz⟩;have hwz:=hwz.symm;subst hwz)|(go_at_call 21;(with_reducible refine (HV50.out _).mono ?_);rintro e wz ⟨rfl,hwz⟩;have hwz:=hwz.symm;subst hwz))
  refine bodyPost_ret (v:=.agg #[.int .i64 6,.slice none 0 0,.slice none 0 0,.slice none 0 0,.slice none 0 0]) (by simp[results,Tryz.results20,go_sem,r0,r1,r2,r3,r4]) rfl ?_
  exact⟨⟨6,[],[],[],[]⟩,none,0,none,0,none,0,none,0,rfl,dI6 ZG9 ZH2,SL.nil,SL.nil,SL.nil,SL.nil,(((((HbF.out.setCell (p:=⟨rb,0,none⟩) hwr _).setCell (p:=⟨rb,1,none⟩) hwr _).setCell (p:=⟨rb,2,none⟩) hwr _).setCell (p:=⟨rb,3,none⟩) hwr _).setCell (p:=⟨rb,4,none⟩) hwr _)⟩
 ·go_wp2_with (first|(go_at_call 21;(with_reducible refine (HK.out _).mono ?_);rintro e wz ⟨rfl,hwz⟩;have hwz:=hwz.symm;subst hwz)|(go_at_call 21;(with_reducible refine (HV5.out _).mono ?_);rintro e wz ⟨rfl,hwz⟩;have hwz:=hwz.symm;subst hwz)|(go_at_call 21;(with_reducible refine (HV50.out _).mono ?_);rintro e wz ⟨rfl,hwz⟩;have hwz:=hwz.symm;subst hwz))
  refine bodyPost_ret (v:=.agg #[.int .i64 7,.slice none 0 0,.slice none 0 0,.slice none 0 0,.slice none 0 0]) (by simp[results,Tryz.results20,go_sem,r0,r1,r2,r3,r4]) rfl ?_
  exact⟨⟨7,[],[],[],[]⟩,none,0,none,0,none,0,none,0,rfl,dI6 ZG9 ZH2,SL.nil,SL.nil,SL.nil,SL.nil,(((((HbF.out.setCell (p:=⟨rb,0,none⟩) hwr _).setCell (p:=⟨rb,1,none⟩) hwr _).setCell (p:=⟨rb,2,none⟩) hwr _).setCell (p:=⟨rb,3,none⟩) hwr _).setCell (p:=⟨rb,4,none⟩) hwr _)⟩
 ·go_wp2_with (first|(go_at_call 21;(with_reducible refine (HK.out _).mono ?_);rintro e wz ⟨rfl,hwz⟩;have hwz:=hwz.symm;subst hwz)|(go_at_call 21;(with_reducible refine (HV5.out _).mono ?_);rintro e wz ⟨rfl,hwz⟩;have hwz:=hwz.symm;subst hwz)|(go_at_call 21;(with_reducible refine (HV50.out _).mono ?_);rintro e wz ⟨rfl,hwz⟩;have hwz:=hwz.symm;subst hwz))
  refine bodyPost_ret (v:=.agg #[.int .i64 8,.slice (some ⟨A,0,none⟩) 1 1,.slice (some ⟨B,0,none⟩) 1 1,.slice none 0 0,.slice none 0 0]) (by simp[results,Tryz.results20,go_sem,r0,r1,r2,r3,r4]) rfl ?_
  exact⟨⟨8,[bx],[by'],[],[]⟩,some ⟨A,0,none⟩,1,some ⟨B,0,none⟩,1,none,0,none,0,rfl,dI7 ZG9 Hnx.out ZH2,((HA.out.bsame (((((((aC.refl _ WF).setCell (p:=⟨nb,0,none⟩) (fun h=>h.2.1 rfl) _).setCell (p:=⟨rb,0,none⟩) (fun h=>h.2.2 rfl) _).setCell (p:=⟨rb,1,none⟩) (fun h=>h.2.2 rfl) _).setCell (p:=⟨rb,2,none⟩) (fun h=>h.2.2 rfl) _).setCell (p:=⟨rb,3,none⟩) (fun h=>h.2.2 rfl) _).setCell (p:=⟨rb,4,none⟩) (fun h=>h.2.2 rfl) _)).bless fun b _ h=>h.1),((HB.out.bsame (((((((aC.refl _ WF).setCell (p:=⟨nb,0,none⟩) (fun h=>h.2.1 rfl) _).setCell (p:=⟨rb,0,none⟩) (fun h=>h.2.2 rfl) _).setCell (p:=⟨rb,1,none⟩) (fun h=>h.2.2 rfl) _).setCell (p:=⟨rb,2,none⟩) (fun h=>h.2.2 rfl) _).setCell (p:=⟨rb,3,none⟩) (fun h=>h.2.2 rfl) _).setCell (p:=⟨rb,4,none⟩) (fun h=>h.2.2 rfl) _)).bless fun b _ h=>h.1),SL.nil,SL.nil,((((((HbF.out.setCell (p:=⟨nb,0,none⟩) hwn _).setCell (p:=⟨rb,0,none⟩) hwr _).setCell (p:=⟨rb,1,none⟩) hwr _).setCell (p:=⟨rb,2,none⟩) hwr _).setCell (p:=⟨rb,3,none⟩) hwr _).setCell (p:=⟨rb,4,none⟩) hwr _)⟩
end Go.Proofs.YtablgnacmpcfeaaGreatDoor
