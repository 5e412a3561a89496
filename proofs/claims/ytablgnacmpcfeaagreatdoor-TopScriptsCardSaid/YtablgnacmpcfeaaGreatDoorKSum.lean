/- Sum: Walk: digest.sum. Walks: digest.Sum, DigestOf; the law DigestSums. Walks: digest.Parts, PartsOf. Walks: bytes cloned into a row of the call's own; a tape opened so; digests with their room. The conditions of each are in its words. -/
import Derived.Deep.OwnRows
import Derived.Test.YtablgnacmpcfeaaGreatDoorKStir
import Derived.Test.YtablgnacmpcfeaaGreatDoorKKec
import Derived.Test.YtablgnacmpcfeaaGreatDoorKDigD
import Derived.Test.YtablgnacmpcfeaaGreatDoorKBase
import Derived.Test.YtablgnacmpcfeaaGreatDoorKTapeK
namespace Go.Proofs.YtablgnacmpcfeaaGreatDoor
open Go.RowKit
set_option linter.unusedVariables false
set_option linter.unusedSimpArgs false
set_option maxRecDepth 100000
set_option maxHeartbeats 8000000
structure bC1 (w:World) (g cap G:Nat) (P:List UInt8) (w2:World):Prop where
 row:w2.ownsRow w.heap.size 5 1 (.slice (some ⟨g,0,none⟩) P.length cap) P.length (P.map bv)
 below:Below w.heap.size w w2
 lt:g<w2.heap.size
 ne:g≠G
 le:w.heap.size≤G
theorem bC1.stirs {w:World} {g cap G:Nat} {P:List UInt8} {w2 w3:World} (h:bC1 w g cap G P w2) (k:aF6 G w2 w3):bC1 w g cap G P w3 :=
 ⟨cR1 h.row (k.ne.block g h.ne h.lt),h.below.trans (k.below.mono h.le),Nat.lt_of_lt_of_le h.lt k.same.size,h.ne,h.le⟩
theorem bC1.cell {w:World} {g cap G:Nat} {P:List UInt8} {w2:World} (h:bC1 w g cap G P w2) {k:Nat} (hk:k<P.length):w2.cell? ⟨g,k,none⟩=some (.int .u8 ((aJ3 P k:Nat):Int)):=by
 rw[h.row.cellAt k AO,List.getElem?_map,List.getElem?_eq_getElem hk,aJ3,List.getD_eq_getElem?_getD,List.getElem?_eq_getElem hk]
 rfl
def bK7 (s:List Ln) (i:Nat):List UInt8:=aT4 s i++List.replicate (32 - i) 0
theorem bP1 (s:List Ln) (i:Nat):(aT4 s i).length=i:=by simp[aT4]
theorem bP2 (s:List Ln) {i:Nat} (h:i≤32):(bK7 s i).length=32:=by simp[bK7,bP1];omega
theorem cU0 (s:List Ln) {i:Nat} (h:i<32):(bK7 s i).set i (UInt8.ofNat ((ga s (i / 8)).toNat / 2 ^ (i % 8*8) % 256))=bK7 s (i+1):=by
 rw[bK7,List.set_append_right _ _ (by rw[bP1];exact zn),bP1,Nat.sub_self,show 32 - i=(31 - i)+1 by omega,List.replicate_succ,List.set_cons_zero,bK7,out_next,List.append_assoc,show 32 - (i+1)=31 - i by omega]
 rfl
theorem outT_all (s:List Ln):bK7 s 32=aT4 s 32:=by simp[bK7]
theorem bW7 (s:List Ln):(bK7 s 0).map bv=(madeCells #[Value.int .u8 0] 32).toList:=by
 rw[toList_madeCells_one]
 rfl
theorem or_last (b:List UInt8) (n:Nat):bits .or .u8 (((aQ1 b n).getD ((aQ1 b n).length - 1) 0).toNat:Int) 128=(((aQ1 b n).getD ((aQ1 b n).length - 1) 0+128).toNat:Int):=by
 rw[pad_last]
 split <;> rfl
theorem cR3 (w:World) (A:Option Addr) (b:List UInt8) (c:Nat) (ha:Bs All w A b) (hn:b.length≤1000000) (hT:bD w) :
  Calls Tryz.prog 233 #[.slice A b.length c] w (aT3 1 bI0 w (aL2 b)):=by
 obtain⟨i0,hi0,hz0,hz1,hz2⟩:=info_parts info_u8
 have Ha:=zh ha
 have HT:=zh hT
 have Hlt:=zh (show 8<w.heap.size∧6<w.heap.size∧7<w.heap.size from ⟨World.block_lt_of_cell? w _ (hT.rounds 0 AO),World.block_lt_of_cell? w _ (hT.goes 0 _ rfl),World.block_lt_of_cell? w _ (hT.turns 0 AO)⟩)
 clear ha hT
 go_enter Tryz.func233,Tryz.ntmps233
 go_wp2_with (first
  | (at_builtin;refine aC0 _ rfl _ _ _ rfl w.heap.size 5 i0 (.int .u8 0) 1 1 Tryz.underlying44 hi0 hz0 hz1 hz2 rfl ZD9 (.slice none 0 0) 0 [] rfl (World.ownsRow_nil _ _ _ _) A b.length c (b.map bv) rfl ZH2 (SL.bsrc (S:=All) Ha.out) (aI3 b) ZD2 AO AO ?_;intro v1 w1 hown1 hg1 hat1)
  | (at_builtin;refine aC0 _ rfl _ _ _ rfl w.heap.size 5 i0 (.int .u8 0) 1 1 Tryz.underlying44 hi0 hz0 hz1 hz2 rfl ZD9 v1 (0+b.length) _ rfl (hown1.alloc _) (some ⟨w1.heap.size,0,none⟩) 1 1 [bv 6] rfl rfl (aJ8 _ _ _) ZG3 ZD2 AO (by have:=hg1.size;simp;omega) ?_;intro v2 w2 hown2 hg2 hat2))
 have Hp0:=zh (show w2.ownsRow w.heap.size 5 1 v2 (b.length+1+0) ((aQ1 b 0).map bv) by simpa [aQ1] using hown2)
 have Hb0:=zh (show Below w.heap.size w w2 from ((aA6 (World.ownsRow_nil w w.heap.size 5 1) hg1 zn).alloc hg1.size _).trans (aA6 (hown1.alloc _) hg2 (by have:=hg1.size;simp;omega)))
 clear hown1 hown2 hg1 hg2 hat1 hat2
 go_loopw [3] (fun v wr=>∃ k:Nat,k≤135 - b.length % 136∧wr.ownsRow w.heap.size 5 1 v (b.length+1+k) ((aQ1 b k).map bv)∧Below w.heap.size w wr) (fun v _=>b.length+137 - lenOf v)
 case atStart=>exact⟨0,AO,Hp0.out,Hb0.out⟩
 case round =>
  clear Hp0 Hb0
  obtain⟨k,hk,hown,hbel⟩:=hrel
  obtain⟨g,cap,rfl,hgb,hgl,hqc⟩:=cF0 hown AO
  have Hown:=zh hown
  have Hbel:=zh hbel
  have hlen:=cF1 b k
  have Hpl:=zh hlen
  clear hown hbel hlen
  obtain⟨q,hq⟩:∃ q,q=b.length+1+k:=⟨_,rfl⟩
  rw[← hq] at Hown hqc ⊢
  have Hq:=zh hq
  have hqb:q≤1000137:=by omega
  have hq0:0<q:=by omega
  by_cases hm:q % 136=0
  rotate_left
  ·have hk1:k+1≤135 - b.length % 136:=by omega
   have hmz:b.length+137 - (q+1)<b.length+137 - q:=by omega
   obtain⟨m,hmq⟩:∃ m,m=q % 136:=⟨_,rfl⟩
   have m1:(q:Int).tmod 136=(m:Int):=by rw[Int.tmod_eq_emod_of_nonneg AO];omega
   have m2:¬ m=0:=by omega
   have m3:((m:Int)==0)=false:=by simp;omega
   have m4:((m:Int) != 0)=true:=by simp;omega
   clear hm hmq hq
   go_wp2_with (at_builtin;refine aC0 _ rfl _ _ _ rfl w.heap.size 5 i0 (.int .u8 0) 1 1 Tryz.underlying44 hi0 hz0 hz1 hz2 rfl ZD9 _ q _ rfl (Hown.out.alloc _) (some ⟨wr.heap.size,0,none⟩) 1 1 [bv 0] rfl rfl (aJ8 _ _ _) ZG3 ZD2 AO (by have:=Hbel.out.size;simp;omega) ?_;intro v1 w1 hown1 hg1 hat1)
   obtain⟨g1,cap1,rfl,_,_,_⟩:=cF0 hown1 AO
   have Hown1:=zh (show w1.ownsRow w.heap.size 5 1 (.slice (some ⟨g1,0,none⟩) (q+1) cap1) (b.length+1+(k+1)) ((aQ1 b (k+1)).map bv) by
    have e:=Hq.out
    rw[← bW6,List.map_append,show b.length+1+(k+1)=q+1 by omega]
    exact hown1)
   have Hb1:=zh (show Below w.heap.size w w1 from (Hbel.out.alloc (Hbel.out.size) _).trans (aA6 (Hown.out.alloc _) hg1 (by have:=Hbel.out.size;simp;omega)))
   clear hown1 hg1 hat1
   go_roundw
   case rel=>exact⟨k+1,hk1,Hown1.out,Hb1.out⟩
   case measure=>exact hmz
  ·have hkq:k=135 - b.length % 136:=by omega
   obtain⟨q1,hq1⟩:∃ q1,q=q1+1:=⟨q - 1,AO⟩
   obtain⟨P,hP⟩:∃ P,P=padS b:=⟨_,rfl⟩
   obtain⟨l0,hl0⟩:∃ l0,l0=(aQ1 b k).getD q1 0:=⟨_,rfl⟩
   have hlen:(aQ1 b k).length=q:=by rw[Hpl.out,hq]
   have hor:bits .or .u8 (l0.toNat:Int) 128=((l0+128).toNat:Int):=by
    have h:=or_last b k
    rw[hlen,hq1,Nat.add_sub_cancel,← hl0] at h
    exact h
   have hPe:P=(aQ1 b k).set q1 (l0+128):=by
    rw[hP,pad_eq,← hkq,hlen,hq1,Nat.add_sub_cancel,hl0]
   have hPl:P.length=q:=by rw[hPe,List.length_set,hlen]
   have hg4:=Hown.out.stored q1 (bv (l0+128))
   have Hrow:=zh (show (wr.setCell ⟨g,q1,none⟩ (bv (l0+128))).ownsRow w.heap.size 5 1 (.slice (some ⟨g,0,none⟩) P.length cap) P.length (P.map bv) by
    rw[hPl,hPe,List.map_set]
    exact hg4.1)
   have c1:wr.cell? ⟨g,q1,none⟩=some (.int .u8 (l0.toNat:Int)):=by
    rw[Hown.out.cellAt q1 AO,List.getElem?_map,List.getElem?_eq_getElem AO,hl0,List.getD_eq_getElem?_getD,List.getElem?_eq_getElem AO]
    rfl
   have fz:=Hown.out.frozenAt q1
   have m1:(q:Int).tmod 136=0:=by rw[Int.tmod_eq_emod_of_nonneg AO];omega
   have m2:IntKind.i64.wrap ((q:Int) - 1)=(q1:Int):=by rw[IntWalk.i64_in _ AO];omega
   have m3:(q1:Int)<(q:Int):=by omega
   obtain⟨nb,hnb⟩:∃ nb,q=136*nb:=⟨q / 136,AO⟩
   have Hnb:=zh hnb
   have HP:=zh hP
   have HPl:=zh hPl
   have Hor:=zh (show Value.int .u8 (bits .or .u8 (l0.toNat:Int) 128)=bv (l0+128) by rw[hor];rfl)
   clear hnb hP hPl hPe hlen hl0 hkq hq hg4 hor hm hq1
   go_wp2
   have HR:=zh (show bC1 w g cap wr.heap.size P ((wr.setCell ⟨g,q1,none⟩ (bv (l0+128))).alloc (.cells (uc (spS P 0)).toArray 310)) from
    ⟨Hrow.out.alloc _,(Hbel.out.setCell hgb _).alloc (Nat.le_trans Hbel.out.size ZH2) _,by simp;omega,AO,Hbel.out.size⟩)
   have HS:=zh (show StB ((wr.setCell ⟨g,q1,none⟩ (bv (l0+128))).alloc (.cells (uc (spS P 0)).toArray 310)) wr.heap.size (spS P 0) by
    have h:=aK (wr.setCell ⟨g,q1,none⟩ (bv (l0+128))) (uc (spS P 0)).toArray 310
    have e:(wr.setCell ⟨g,q1,none⟩ (bv (l0+128))).heap.size=wr.heap.size:=by simp
    rw[e] at h
    exact h)
   have HbG:=zh Hbel.out.size
   generalize hGe:wr.heap.size=G at HR HS HbG ⊢
   go_loopw [3,5,6] (fun v _ _ w2=>∃ j o cj:Nat,j≤nb∧v=.slice (some ⟨g,o,none⟩) (q - 136*j) cj∧(j<nb→o=136*j)∧q - 136*j≤cj∧StB w2 G (spS P j)∧bC1 w g cap G P w2) (fun v _ _ _=>lenOf v)
   case atStart =>
    refine⟨0,0,cap,AO,by simp,by simp,AO,?_,?_⟩
    ·have h:=HS.out;rw[← Hor.out] at h;exact h
    ·have h:=HR.out;rw[← Hor.out] at h;exact h
   case round =>
    clear HR HS c1 fz Hrow Hor hgl hGe Hbel Hown
    obtain⟨j,o,cj,hj,rfl,ho,hc,hS,hR⟩:=hrel
    have HS:=zh hS
    have HR:=zh hR
    clear hS hR
    obtain⟨L,hL⟩:∃ L,L=q - 136*j:=⟨_,rfl⟩
    rw[← hL] at hc ⊢
    by_cases hlt:j<nb
    ·have hq:=Hnb.out
     have ho':=ho hlt
     have hL1:136≤L:=by omega
     have hL0n:0<L:=by omega
     have hL0:(0:Int)<(L:Int):=by omega
     have hLd:decide ((0:Int)<(L:Int))=true:=decide_eq_true hL0
     have hoL:o+L=q:=by omega
     have Ho:=zh ho'
     have HL:=zh hL
     clear ho ho' hL hq
     go_wp2
     go_loopw [5,33] (fun _ i w3=>∃ x:Nat,x≤136∧i=.int .i64 x∧StB w3 G (aG9 (spS P j) (P.drop o) x)∧bC1 w g cap G P w3) (fun _ i _=>136 - (intOf i).toNat)
     case atStart=>exact⟨0,AO,rfl,by rw[cE7 (sp_len P j)];exact HS.out,HR.out⟩
     case round =>
      clear HS HR
      obtain⟨x,hx,rfl,hS2,hR2⟩:=hrel
      have HS2:=zh hS2
      have HR2:=zh hR2
      clear hS2 hR2
      by_cases hlt2:x<136
      ·obtain⟨d,hd⟩:∃ d,d=x / 8:=⟨_,rfl⟩
       obtain⟨e,he⟩:∃ e,e=x % 8:=⟨_,rfl⟩
       obtain⟨bt,hbt⟩:∃ bt,bt=aJ3 P (o+x):=⟨_,rfl⟩
       have hbl:bt<256:=by rw[hbt];exact bZ9 _ _
       have hbd:aJ3 (P.drop o) x=bt:=by rw[hbt,aJ3,aJ3,List.getD_eq_getElem?_getD,List.getD_eq_getElem?_getD,List.getElem?_drop]
       have m1:(x:Int).tdiv 8=(d:Int):=by rw[Int.tdiv_eq_ediv_of_nonneg AO];omega
       have m2:(x:Int).tmod 8=(e:Int):=by rw[Int.tmod_eq_emod_of_nonneg AO];omega
       have m3:IntKind.i64.wrap (d:Int)=(d:Int):=IntWalk.i64_in _ AO
       have m4:IntKind.i64.wrap ((e:Int)*8)=(e:Int)*8:=IntWalk.i64_in _ AO
       have m5:(0:Int)≤(e:Int)*8:=by omega
       have m6:((e:Int)*8).toNat=e*8:=by omega
       have n1:(d:Int)<25:=by omega
       have n2:(x:Int)<(L:Int):=by omega
       have n3:(x:Int)<136:=by omega
       have mb:IntKind.u64.wrap (bt:Int)=(bt:Int):=by rw[IntKind.wrap_u64];omega
       have hx8:min (e*8) 64=e*8:=by omega
       have Hv:=zh (show bits .xor .u64 (uv (ga (aG9 (spS P j) (P.drop o) x) d)) (IntKind.u64.wrap ((bt:Int)*2 ^ min (e*8) 64))=uv (ga (aG9 (spS P j) (P.drop o) x) (x / 8) ^^^ BitVec.ofNat 64 (aJ3 (P.drop o) x*2 ^ (x % 8*8))) by
        have h:=byte_shl (P.getD (o+x) 0) (s:=e*8) AO
        rw[hx8] at h
        have h':IntKind.u64.wrap ((bt:Int)*2 ^ (e*8))=uv (BitVec.ofNat 64 (bt*2 ^ (e*8))):=by rw[hbt];exact h
        rw[hx8,h',aT5,hbd,hd,he])
       have Hd:=zh (show StB wr.drew G (aG9 (spS P j) (P.drop o) x)∧bC1 w g cap G P wr.drew from ⟨HS2.out,HR2.out.stirs (aF6.refl _ _).drew⟩)
       have Hbt:=zh hbt
       have Hd8:=zh hd
       clear hd he hbt hbd hx8
       go_wp2_with fail
       refine wp_region_still_tail 15 ZG0 ZG0 ?_
       change wpStill _ _ wr.drew (fun a'=>wpList _ _ _ _ a' wr.drew) _ _
       generalize wr.drew=wd at Hd ⊢
       have c0:=aF0 Hd.out.1 (k:=d) (by rw[aG9,aO1];omega)
       have c1:=Hd.out.2.cell (k:=o+x) (by rw[HPl.out];omega)
       rw[← Hbt.out] at c1
       have fz:=bA8 Hd.out.1 d
       (simp only[List.take_succ_cons,List.take_zero,List.drop_succ_cons,List.drop_zero];(repeat (refine wpStill_step (fun K hK=>?_);go_simp;refine hK _ ?_;clear hK K));try refine wpStill_nil ?_)
       go_wp2
       go_roundw
       case rel =>
        refine⟨x+1,AO,by go_num,?_,Hd.out.2.stirs ((aF6.refl _ _).set _ _)⟩
        have e:=StB.set Hd.out.1 d (ga (aG9 (spS P j) (P.drop o) x) (x / 8) ^^^ BitVec.ofNat 64 (aJ3 (P.drop o) x*2 ^ (x % 8*8)))
        rw[← Hv.out] at e
        rw[← cE8 (spS P j) (P.drop o) hlt2]
        simp only[← Hd8.out] at e ⊢
        exact e
       case measure=>simp[intOf];omega
      ·have HSa:=zh (show StB wr G (aZ3 (bA7 (spS P j) (P.drop o)) 0) by have h:=HS2.out;rw[show x=136 by omega,cL6] at h;exact h)
       have hn136:¬ (x:Int)<136:=by omega
       clear hlt2 hx HS2
       go_wp2
       go_loopw [6,52] (fun _ i w3=>∃ r:Nat,r≤24∧i=.int .i64 r∧StB w3 G (aZ3 (bA7 (spS P j) (P.drop o)) r)∧bC1 w g cap G P w3) (fun _ i _=>24 - (intOf i).toNat)
       case atStart=>exact⟨0,AO,rfl,HSa.out,HR2.out⟩
       case round =>
        clear HSa HR2 hn136
        obtain⟨r,hr,rfl,hS3,hR3⟩:=hrel
        have HS3:=zh hS3
        have HR3:=zh hR3
        clear hS3 hR3
        by_cases hlt3:r<24
        ·have r24:(r:Int)<24:=by omega
         have hst:=stir_ok wr G (aZ3 (bA7 (spS P j) (P.drop o)) r) r HS3.out (bW4 (by rw[bA7,aO1]) r) hlt3 (HT.out.below HR3.out.below) ⟨by have:=Hlt.out;have:=HbG.out;omega,by have:=Hlt.out;have:=HbG.out;omega,by have:=Hlt.out;have:=HbG.out;omega⟩
         go_wp2_with ((go_at_call 264;(with_reducible refine hst.mono ?_);rintro e w1 ⟨rfl,hs1,ht1⟩))
         go_roundw
         case rel=>exact⟨r+1,AO,by go_num,by rw[bO7];exact hs1,HR3.out.stirs ht1⟩
         case measure=>simp[intOf];omega
        ·have HSn:=zh (show StB wr G (spS P (j+1)) by have h:=HS3.out;rw[show r=24 by omega,Ho.out] at h;exact h)
         have hn24:¬ (r:Int)<24:=by omega
         clear hlt3 hr HS3
         go_wp2
         have q1:=HL.out
         have q2:=Ho.out
         have q3:=Hnb.out
         go_roundw
         case rel =>
          have e1:L - 136=q - 136*(j+1):=by omega
          by_cases h136:cj=136
          ·rw[if_pos h136,e1]
           exact⟨j+1,o,cj - 136,AO,rfl,fun h=>by omega,AO,HSn.out,HR3.out⟩
          ·rw[if_neg h136,e1]
           exact⟨j+1,o+136,cj - 136,AO,rfl,fun h=>by omega,AO,HSn.out,HR3.out⟩
         case measure =>
          show L - 136<L
          omega
    ·obtain⟨st,hst⟩:∃ st,st=spS P nb:=⟨_,rfl⟩
     have HSe:=zh (show StB wr G st by have h:=HS.out;rwa [show j=nb by omega,← hst] at h)
     have HD:=zh (show aT4 st 32=aL2 b by rw[hst,HP.out,aL2];congr 2;have h1:=Hnb.out;have h2:=HPl.out;rw[HP.out] at h2;omega)
     have hstl:st.length=25:=by rw[hst];exact sp_len P nb
     have hmk:∀ w:World,(Instr.makeSlice 44 (.int .i64 32) (.int .i64 32)).run Tryz.prog w=.ok (.slice (some ⟨w.heap.size,0,none⟩) 32 32) (w.alloc (.cells (madeCells #[Value.int .u8 0] 32) 5)):=run_make_row' (P:=Tryz.prog) 44 5 (.int .u8 0) 1 Tryz.underlying44 info_u8 rfl .i64 .i64 32 AO AO
     have hL0:¬ (0:Int)<(L:Int):=by have:=Hnb.out;omega
     have hL0n:¬ 0<L:=by omega
     have hLd:decide ((0:Int)<(L:Int))=false:=decide_eq_false hL0
     have hGl:G<wr.heap.size:=(Array.getElem?_eq_some_iff.1 HS.out).1
     clear hst HS hlt hj ho hL hc
     go_wp2
     have Hr0:=zh (show (wr.alloc (.cells (madeCells #[Value.int .u8 0] 32) 5)).ownsRow w.heap.size 5 1 (.slice (some ⟨wr.heap.size,0,none⟩) 32 32) 32 ((bK7 st 0).map bv) by
      rw[bW7]
      exact World.ownsRow_lit wr _ 32 HR.out.below.size ZD2 (by have h:=congrArg List.length (bW7 st);rw[List.length_map,bP2 st AO] at h;simpa using h.symm))
     have Hs0:=zh (show StB (wr.alloc (.cells (madeCells #[Value.int .u8 0] 32) 5)) G st from (heap_alloc_old _ _ hGl).trans HSe.out)
     have Hb0:=zh (show Below w.heap.size w (wr.alloc (.cells (madeCells #[Value.int .u8 0] 32) 5)) from HR.out.below.alloc HR.out.below.size _)
     have HbO:=zh HR.out.below.size
     generalize hOe:wr.heap.size=O at Hr0 HbO ⊢
     go_loopw [8,61] (fun _ i w3=>∃ x:Nat,x≤32∧i=.int .i64 x∧w3.ownsRow w.heap.size 5 1 (.slice (some ⟨O,0,none⟩) 32 32) 32 ((bK7 st x).map bv)∧StB w3 G st∧Below w.heap.size w w3) (fun _ i _=>32 - (intOf i).toNat)
     case atStart=>exact⟨0,AO,rfl,Hr0.out,Hs0.out,Hb0.out⟩
     case round =>
      have hGO:G≠O:=by omega
      clear Hr0 Hs0 Hb0 HR HSe hGl hOe
      obtain⟨x,hx,rfl,hR2,hS2,hB2⟩:=hrel
      have HR2:=zh hR2
      have HS2:=zh hS2
      have HB2:=zh hB2
      clear hR2 hS2 hB2
      by_cases hlt2:x<32
      ·obtain⟨d,hd⟩:∃ d,d=x / 8:=⟨_,rfl⟩
       obtain⟨e,he⟩:∃ e,e=x % 8:=⟨_,rfl⟩
       have m1:(x:Int).tdiv 8=(d:Int):=by rw[Int.tdiv_eq_ediv_of_nonneg AO];omega
       have m2:(x:Int).tmod 8=(e:Int):=by rw[Int.tmod_eq_emod_of_nonneg AO];omega
       have m3:IntKind.i64.wrap (d:Int)=(d:Int):=IntWalk.i64_in _ AO
       have m4:IntKind.i64.wrap ((e:Int)*8)=(e:Int)*8:=IntWalk.i64_in _ AO
       have m5:(0:Int)≤(e:Int)*8:=by omega
       have m6:((e:Int)*8).toNat=e*8:=by omega
       have n1:(d:Int)<25:=by omega
       have n3:(x:Int)<32:=by omega
       have Hv:=zh (show Value.int .u8 (IntKind.u8.wrap (uv (ga st d) / 2 ^ min (e*8) 64))=bv (UInt8.ofNat ((ga st (x / 8)).toNat / 2 ^ (x % 8*8) % 256)) by rw[byte_shr _ AO,hd,he];rfl)
       have c0:=aF0 HS2.out (k:=d) AO
       have c1:wr.cell? ⟨O,x,none⟩=some (bv ((bK7 st x).getD x 0)):=by
        rw[HR2.out.cellAt x AO,List.getElem?_map,List.getElem?_eq_getElem (by rw[bP2 st AO];omega),List.getD_eq_getElem?_getD,List.getElem?_eq_getElem (by rw[bP2 st AO];omega)]
        rfl
       have fz:=HR2.out.frozenAt x
       have Hst:=zh (HR2.out.stored x (bv (UInt8.ofNat ((ga st (x / 8)).toNat / 2 ^ (x % 8*8) % 256)))).1
       clear hd he
       go_wp2
       go_roundw
       case rel =>
        refine⟨x+1,AO,by go_num,?_,(Below.heap_setCell _ _ _ _ hGO).trans HS2.out,HB2.out.setCell HbO.out _⟩
        have h:=Hst.out
        rw[← List.map_set,cU0 st hlt2,← Hv.out] at h
        exact h
       case measure=>simp[intOf];omega
      ·have HRe:=zh (show wr.ownsRow w.heap.size 5 1 (.slice (some ⟨O,0,none⟩) 32 32) 32 ((aL2 b).map bv) by have h:=HR2.out;rwa [show x=32 by omega,outT_all,HD.out] at h)
       have hn32:¬ (x:Int)<32:=by omega
       clear hlt2 hx HR2
       go_wp2
       go_ret
       exact bA1 HRe.out HB2.out
theorem sum_ok (w:World) (A:Option Addr) (b:List UInt8) (c:Nat) (ha:Bs All w A b) (hn:b.length≤1000000) (hT:bD w) :
  Calls Tryz.prog 233 #[.slice A b.length c] w (bU7 w (aL2 b)) :=
 (cR3 w A b c ha hn hT).mono fun _ _ h=>h.bare
def bD2 (w:World) (r:List UInt8 × Int) (e:Ending) (w':World):Prop :=
 ∃ B d,e=.returned (.tuple #[.slice B r.1.length d,.int .i64 r.2])∧Bs (aB w.heap.size) w' B r.1∧Below w.heap.size w w'
def BlR (S:Nat→Prop) (w:World) (cs:List Value) (b:List UInt8):Prop:=∃ A c,cs=[.slice A b.length c]∧Bs S w A b∧b.length≤big
theorem blR_stays:bI BlR :=
 ⟨fun _ _ _ _ _ hb ⟨A,c,h0,h1,h2⟩=>⟨A,c,h0,h1.bsame hb,h2⟩,fun _ _ _ _ _ hb ⟨A,c,h0,h1,h2⟩=>⟨A,c,h0,h1.bless hb,h2⟩⟩
abbrev Bls (S:Nat→Prop) (w:World) (A:Option Addr) (l:List (List UInt8)):Prop:=SL 1 BlR S w A l
theorem bls_at {S:Nat→Prop} {w:World} {A:Option Addr} {l:List (List UInt8)} (h:Bls S w A l) {k:Nat} (hk:k<l.length) :
  ∃ b off K c,A=some ⟨b,off,none⟩∧S b∧b<w.heap.size∧w.cell? ⟨b,off+k,none⟩=some (.slice K l[k].length c)∧Bs S w K l[k]∧l[k].length≤big:=by
 obtain⟨b,off,cs,e,h0,hlt,h1,h2,A',c,rfl,h3,h4⟩:=h.at hk
 exact⟨b,off,A',c,e,h0,hlt,by simpa using h2 0 AO,h3,h4⟩
def hdr2 (p:List UInt8):List UInt8:=[UInt8.ofNat (p.length / 256),UInt8.ofNat p.length]
def aL3 (b:List UInt8):List (List UInt8)→Option (List UInt8)
 | []=>some b
 | p :: r=>if p.length≤4000∧b.length+2+p.length≤4000 then aL3 (b++hdr2 p++p) r else none
def aW7 (k:UInt8) (l:List (List UInt8)):List UInt8 × Int:=match aL3 [k] l with
 | none=>([],1)
 | some b=>(aL2 b,0)
theorem bP3 {b p:List UInt8} {r:List (List UInt8)} (h:¬ (p.length≤4000∧b.length+2+p.length≤4000)):aL3 b (p :: r)=none:=by rw[aL3,if_neg h]
theorem bW8 {b p:List UInt8} {r:List (List UInt8)} (h:p.length≤4000∧b.length+2+p.length≤4000):aL3 b (p :: r)=aL3 (b++hdr2 p++p) r:=by rw[aL3,if_pos h]
theorem bP4 {k:UInt8} {l:List (List UInt8)} (h:aL3 [k] l=none):aW7 k l=([],1):=by unfold aW7;rw[h]
theorem bP5 {k:UInt8} {l:List (List UInt8)} {b:List UInt8} (h:aL3 [k] l=some b):aW7 k l=(aL2 b,0):=by unfold aW7;rw[h]
theorem bP6 (w:World) (hT:bD w) (kb:UInt8) (A:Option Addr) (l:List (List UInt8)) (c:Nat) (ha:Bls All w A l) (hn:l.length*24≤140737488355328) :
  Calls Tryz.prog 255 #[.int .u8 (kb.toNat:Int),.slice A l.length c] w (bD2 w (aW7 kb l)):=by
 obtain⟨i0,hi0,hz0,hz1,hz2⟩:=info_parts info_u8
 have HT:=zh hT
 have Ha:=zh (SL.low blR_stays ha (Nat.le_refl w.heap.size))
 clear hT ha
 go_enter Tryz.func255,Tryz.ntmps255
 go_wp2
 have Hr0:=zh (show (w.alloc (.cells #[.int .u8 (kb.toNat:Int)] 5)).ownsRow w.heap.size 5 1 (.slice (some ⟨w.heap.size,0,none⟩) 1 1) [kb].length ([kb].map bv) from World.ownsRow_lit w #[.int .u8 (kb.toNat:Int)] 1 zn ZD2 rfl)
 go_loopw [6,8,13] (fun v _ i wr=>∃ (k:Nat) (bk:List UInt8),k≤l.length∧i=.int .i64 k∧wr.ownsRow w.heap.size 5 1 v bk.length (bk.map bv)∧aL3 bk (l.drop k)=aL3 [kb] l∧bk.length≤4000∧Below w.heap.size w wr) (fun _ _ i _=>l.length - (intOf i).toNat)
 case atStart=>exact⟨0,[kb],AO,rfl,Hr0.out,by rw[List.drop_zero],by simp,(Below.refl _ _).alloc zn _⟩
 case round =>
  clear Hr0
  obtain⟨k,bk,hk,rfl,hown,hpt,hbk,hbel⟩:=hrel
  obtain⟨A1,cap1,rfl⟩:=aQ7 hown
  have Hown:=zh hown
  have Hbel:=zh hbel
  have Hpt:=zh hpt
  clear hown hbel hpt
  by_cases hlt:k<l.length
  ·have hki:(k:Int)<(l.length:Int):=by omega
   have mk:IntKind.i64.wrap ((k:Int)+1)=(k:Int)+1:=IntWalk.i64_in _ AO
   obtain⟨ab,ao,K,cp,rfl,_,hal,hcell,hs,hpb⟩:=bls_at (Ha.out.same blR_stays (aC.of_low Hbel.out)) hlt
   have Hs:=zh hs
   have Hdr:=zh (List.drop_eq_getElem_cons hlt)
   generalize l[k]=p at *
   have Hp2:=zh (show aL3 bk (p :: l.drop (k+1))=aL3 [kb] l by rw[← Hdr.out];exact Hpt.out)
   clear hs Hdr Hpt
   by_cases h1:4000<p.length
   ·have Hv:=zh (bP4 (Hp2.out.symm.trans (bP3 AO)))
    have z1:(4000:Int)<(p.length:Int):=by omega
    go_wp2
    go_ret2
    rw[Hv.out]
    exact⟨none,0,rfl,SL.nil,Hbel.out⟩
   ·have z1:¬ (4000:Int)<(p.length:Int):=by omega
    have m1:IntKind.i64.wrap ((bk.length:Int)+2)=(bk.length:Int)+2:=IntWalk.i64_in _ AO
    have m2:IntKind.i64.wrap ((bk.length:Int)+2+(p.length:Int))=(bk.length:Int)+2+(p.length:Int):=IntWalk.i64_in _ AO
    by_cases h2:4000<bk.length+2+p.length
    ·have Hv:=zh (bP4 (Hp2.out.symm.trans (bP3 AO)))
     have z2:(4000:Int)<(bk.length:Int)+2+(p.length:Int):=by omega
     go_wp2
     go_ret2
     rw[Hv.out]
     exact⟨none,0,rfl,SL.nil,Hbel.out⟩
    ·have Hnx:=zh (Hp2.out.symm.trans (bW8 AO))
     have z2:¬ (4000:Int)<(bk.length:Int)+2+(p.length:Int):=by omega
     obtain⟨hi,hhi⟩:∃ hi,hi=UInt8.ofNat (p.length / 256):=⟨_,rfl⟩
     obtain⟨lo,hlo⟩:∃ lo,lo=UInt8.ofNat p.length:=⟨_,rfl⟩
     have t1:IntKind.u8.wrap ((p.length:Int) / 256)=(hi.toNat:Int):=by rw[hhi,← wrap_u8];rfl
     have t2:IntKind.u8.wrap (p.length:Int)=(lo.toNat:Int):=by rw[hlo,← wrap_u8]
     have Hl2:=zh (show hdr2 p=[hi,lo] by rw[hhi,hlo];rfl)
     clear hhi hlo
     go_wp2_with (first
      | (at_builtin;refine aC0 _ rfl _ _ _ rfl w.heap.size 5 i0 (.int .u8 0) 1 1 Tryz.underlying44 hi0 hz0 hz1 hz2 rfl ZD9 _ bk.length (bk.map bv) rfl (Hown.out.alloc _) (some ⟨wr.heap.size,0,none⟩) 2 2 [bv hi,bv lo] rfl rfl (fun _=>aE6 _ _ [bv hi,bv lo] _ rfl) ZG3 ZD2 AO (by have:=Hbel.out.size;simp;omega) ?_;intro v1 w1 hown1 hg1 hat1)
      | (at_builtin;refine aC0 _ rfl _ _ _ rfl w.heap.size 5 i0 (.int .u8 0) 1 1 Tryz.underlying44 hi0 hz0 hz1 hz2 rfl ZD9 v1 (bk.length+2) _ rfl hown1 K p.length cp (p.map bv) rfl ZH2 ?hsrc (aI3 p) ZD2 AO ?hbz ?_;(case hsrc=>exact SL.bsrc (S:=Lo w.heap.size) ((Hs.out.bsame (aC.of_low ((Below.refl w.heap.size wr).alloc Hbel.out.size _))).bsame (aC.of_low (aA6 (Hown.out.alloc _) hg1 (by have:=Hbel.out.size;simp;omega)))));(case hbz=>(have e1:=hg1.size;have e2:=Hbel.out.size;simp at e1;omega));intro v2 w2 hown2 hg2 hat2))
     have Hown2:=zh (show w2.ownsRow w.heap.size 5 1 v2 (bk++hdr2 p++p).length ((bk++hdr2 p++p).map bv) by
      rw[Hl2.out]
      have e:(bk++[hi,lo]++p).length=bk.length+2+p.length:=by simp;omega
      rw[e]
      simpa [List.map_append] using hown2)
     have hz1:=hg1.size
     have Hb2:=zh (show Below w.heap.size w w2 from ((Hbel.out.alloc Hbel.out.size _).trans (aA6 (Hown.out.alloc _) hg1 (by have:=Hbel.out.size;simp;omega))).trans (aA6 hown1 hg2 (by have e2:=Hbel.out.size;simp at hz1;omega)))
     have hlb:(bk++hdr2 p++p).length≤4000:=by simp[hdr2];omega
     clear hown1 hg1 hat1 hown2 hg2 hat2 hz1
     go_roundw
     case rel=>exact⟨k+1,bk++hdr2 p++p,AO,by go_num,Hown2.out,Hnx.out.symm,hlb,Hb2.out⟩
     case measure=>simp[intOf];omega
  ·have Hv:=zh (show aW7 kb l=(aL2 bk,0) by have h:=Hpt.out;rw[List.drop_eq_nil_of_le AO] at h;exact bP5 h.symm)
   have hki:¬ (k:Int)<(l.length:Int):=by omega
   have hbs:=SL.bof_own Hown.out
   have hsm:=sum_ok wr A1 bk cap1 hbs.2.bz AO (HT.out.below Hbel.out)
   clear hlt hk Hpt
   go_wp2_with ((go_at_call 233;(with_reducible refine hsm.mono ?_);rintro e w1 ⟨B,d,rfl,hb,hb1⟩))
   go_ret2
   rw[Hv.out]
   exact⟨B,d,rfl,hb.blo Hbel.out.size,Hbel.out.next hb1 Hbel.out.size⟩
theorem aZ6 {w w':World} {base:Nat} {e:TypeId} {size:Nat} {v:Value} {n:Nat} {xs:List Value} (h:w.ownsRow base e size v n xs) (hk:∀ g,base≤g→g<w.heap.size→w'.heap[g]?=w.heap[g]?):w'.ownsRow base e size v n xs:=by
 refine⟨h.1,?_⟩
 rcases h.2 with h0|⟨g,cap,cur,rfl,hge,hh,rest⟩
 ·exact .inl h0
 ·exact .inr ⟨g,cap,cur,rfl,hge,(hk g hge (Array.getElem?_eq_some_iff.1 hh).1).trans hh,rest⟩
theorem cF4 {w:World} {base:Nat} {e:TypeId} {v:Value} {l:List UInt8} (h:w.ownsRow base e 1 v l.length (l.map bv)):∃ A c,v=.slice A l.length c∧l.length≤c:=by
 rcases h.2 with ⟨rfl,h0⟩|⟨g,cap,cur,rfl,_,_,hcap,_⟩
 ·exact⟨none,0,by rw[h0],AO⟩
 ·exact⟨_,cap,rfl,hcap⟩
def RetOwnB (w:World) (l:List UInt8) (e:Ending) (w':World):Prop :=
 ∃ A c,e=.returned (.slice A l.length c)∧l.length≤c∧w'.ownsRow w.heap.size 5 1 (.slice A l.length c) l.length (l.map bv)∧Below w.heap.size w w'
theorem cU1 (w:World) (A:Option Addr) (a:List UInt8) (c:Nat) (ha:Bs All w A a) (hn:a.length≤big) :
  Calls Tryz.prog 49 #[.slice A a.length c] w (RetOwnB w a):=by
 unfold big at hn
 obtain⟨i0,hi0,hz0,hz1,hz2⟩:=info_parts info_u8
 have hnil:=Lib.run_eql_slice_nil (P:=Tryz.prog) w 44 5 A a.length c 0 0 Tryz.underlying44
 have Ha:=zh ha
 clear ha
 rcases A with _|ad
 ·have e0:a=[]:=by
   cases a with
   | nil=>rfl
   | cons b l=>obtain⟨_,_,h',_⟩:=Ha.out ZH2;cases h'
  subst e0
  clear hn hnil
  have hnil:=Lib.run_eql_slice_nil (P:=Tryz.prog) w 44 5 none 0 c 0 0 Tryz.underlying44
  go_enter Tryz.func49,Tryz.ntmps49
  go_wp2
  go_ret
  exact⟨none,0,rfl,zn,World.ownsRow_nil _ _ _ _,Below.refl _ _⟩
 ·go_enter Tryz.func49,Tryz.ntmps49
  go_wp2_with (at_builtin;refine aC0 _ rfl _ _ _ rfl w.heap.size 5 i0 (.int .u8 0) 1 1 Tryz.underlying44 hi0 hz0 hz1 hz2 rfl ZD9 _ 0 [] rfl (World.ownsRow_made w #[] 0 zn ZD9 rfl) (some ad) a.length c (a.map bv) rfl ZH2 (Ha.out.bbelow ((Below.refl _ _).alloc zn _)).bsrc (aI3 a) ZD2 AO AU ?_;intro v1 w1 hown1 hg1 hat1)
  go_ret
  have hown:w1.ownsRow w.heap.size 5 1 v1 a.length (a.map bv):=by simpa using hown1
  obtain⟨A1,c1,rfl,hc1⟩:=cF4 hown
  exact⟨A1,c1,rfl,hc1,hown,((Below.refl _ _).alloc zn _).trans (aA6 (World.ownsRow_made (e:=5) (size:=1) w #[] 0 zn ZD9 rfl) hg1 AU)⟩
theorem aQ2 (w:World) (A:Option Addr) (t:Tp) (c:Nat) (ha:Bs All w A t.1) (hm:aR5 t=true) :
  Calls Tryz.prog 179 #[.agg #[.slice A t.1.length c,.int .i64 t.2]] w fun e w'=>∃ A1 c1,e=.returned (.tuple #[.agg #[.slice A1 t.1.length c1,.int .i64 t.2],.bool true])∧t.1.length≤c1∧w'.ownsRow w.heap.size 5 1 (.slice A1 t.1.length c1) t.1.length (t.1.map bv)∧Below w.heap.size w w':=by
 obtain⟨m0,m1,m2⟩:=(aH8 t).1 hm
 have h1:t.1.length≤big:=by unfold big;omega
 have b1:decide (t.2<0)=false:=by simp;omega
 have b2:decide ((t.1.length:Int)<t.2)=false:=by simp;omega
 have b3:decide (200000<(t.1.length:Int))=false:=by simp;omega
 clear hm
 have Ha:=zh ha
 clear ha
 go_enter Tryz.func179,Tryz.ntmps179
 go_wp2_with fail
 go_region_held3 (fun w'=>w'.cell? ⟨w.heap.size,0,none⟩=some (.slice A t.1.length c)∧w'.cell? ⟨w.heap.size,1,none⟩=some (.int .i64 t.2))
  (first
   | go_keep
   | (go_split_ands;refine⟨(hb1.cell AU).trans ZF3,(hb1.cell AU).trans ZF3⟩))
  ((go_at_call 49;(with_reducible refine (cU1 _ A t.1 c ?ha h1).mono ?_);(case ha=>(refine Ha.out.bbelow ?_;exact BE));rintro e w1 ⟨A1,c1,rfl,hcap,hs1,hb1⟩;have g0:w1.cell? ⟨w.heap.size+1,0,none⟩=some (.slice none 0 0):=(hb1.cell AU).trans ZH2;have g1:w1.cell? ⟨w.heap.size+1,1,none⟩=some (.int .i64 0):=(hb1.cell AU).trans ZH2;have f0:w1.frozen? ⟨w.heap.size+1,0,none⟩=false:=(hb1.frozen AU).trans ZH2;have f1:w1.frozen? ⟨w.heap.size+1,1,none⟩=false:=(hb1.frozen AU).trans ZH2))
 go_wp2
 refine bodyPost_ret (v:=.tuple #[.agg #[.slice A1 t.1.length c1,.int .i64 t.2],.bool true]) (by simp[results,Tryz.results179,go_sem,g0,g1]) rfl ⟨A1,c1,rfl,hcap,?_,?_⟩
 ·refine bO9 (aZ6 hs1 fun g hg hlt=>?_) AU
  have hq:=hg
  simp at hq
  exact (Below.heap_setCell _ _ _ _ ZC5).trans (Below.heap_setCell _ _ _ _ ZC5)
 ·refine Below.setCell (Below.setCell (Below.next ?_ hb1 AU) AU _) AU _
  exact BE
theorem bD3 (w:World) (hT:bD w) (A:Option Addr) (b:List UInt8) (c:Nat) (ha:Bs All w A b) (hn:b.length≤4000) :
  Calls Tryz.prog 180 #[.slice A b.length c] w fun e w'=>∃ B d,e=.returned (.tuple #[.slice B (aL2 b).length d,.int .i64 0])∧(aL2 b).length≤d∧Bs (aB w.heap.size) w' B (aL2 b)∧Below w.heap.size w w':=by
 have HT:=zh hT
 have Ha:=zh ha
 clear hT ha
 have h1:¬ (4000:Int)<(b.length:Int):=by omega
 have hs:=cR3 w A b c Ha.out AO HT.out
 go_enter Tryz.func180,Tryz.ntmps180
 go_wp2_with ((go_at_call 233;(with_reducible refine hs.mono ?_);rintro e w1 ⟨B,d,rfl,hc,hb,hb1⟩))
 go_ret2
 exact⟨B,d,rfl,hc,hb,hb1⟩
end Go.Proofs.YtablgnacmpcfeaaGreatDoor
