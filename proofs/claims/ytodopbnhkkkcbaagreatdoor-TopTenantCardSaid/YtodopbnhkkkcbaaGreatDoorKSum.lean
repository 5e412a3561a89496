/- Sum: Walk: digest.sum. The conditions of each are in its words. -/
import Derived.Deep.OwnRows
import Derived.Test.YtodopbnhkkkcbaaGreatDoorKStir
import Derived.Test.YtodopbnhkkkcbaaGreatDoorKKec
namespace Go.Proofs.YtodopbnhkkkcbaaGreatDoor
open Go.RowKit
set_option linter.unusedVariables false
set_option linter.unusedSimpArgs false
set_option maxRecDepth 100000
set_option maxHeartbeats 8000000
structure bC1 (w:World) (g cap G:Nat) (P:List UInt8) (w2:World):Prop where
 row:w2.ownsRow w.heap.size 5 1 (.slice (some ⟨g,0,none⟩) P.length cap) P.length (P.map bv)
 below:Below w.heap.size w w2
 lt:g<w2.heap.size
 ne:g≠G
 le:w.heap.size≤G
theorem bC1.stirs {w:World} {g cap G:Nat} {P:List UInt8} {w2 w3:World} (h:bC1 w g cap G P w2) (k:aF6 G w2 w3):bC1 w g cap G P w3 :=
 ⟨cR1 h.row (k.ne.block g h.ne h.lt),h.below.trans (k.below.mono h.le),Nat.lt_of_lt_of_le h.lt k.same.size,h.ne,h.le⟩
theorem bC1.cell {w:World} {g cap G:Nat} {P:List UInt8} {w2:World} (h:bC1 w g cap G P w2) {k:Nat} (hk:k<P.length):w2.cell? ⟨g,k,none⟩=some (.int .u8 ((aJ3 P k:Nat):Int)):=by
 rw[h.row.cellAt k AO,List.getElem?_map,List.getElem?_eq_getElem hk,aJ3,List.getD_eq_getElem?_getD,List.getElem?_eq_getElem hk]
 rfl
def bK7 (s:List Ln) (i:Nat):List UInt8:=aT4 s i++List.replicate (32 - i) 0
theorem bP1 (s:List Ln) (i:Nat):(aT4 s i).length=i:=by simp[aT4]
theorem bP2 (s:List Ln) {i:Nat} (h:i≤32):(bK7 s i).length=32:=by simp[bK7,bP1];omega
theorem cU0 (s:List Ln) {i:Nat} (h:i<32):(bK7 s i).set i (UInt8.ofNat ((ga s (i / 8)).toNat / 2 ^ (i % 8*8) % 256))=bK7 s (i+1):=by
 rw[bK7,List.set_append_right _ _ (by rw[bP1];exact zn),bP1,Nat.sub_self,show 32 - i=(31 - i)+1 by omega,List.replicate_succ,List.set_cons_zero,bK7,out_next,List.append_assoc,show 32 - (i+1)=31 - i by omega]
 rfl
theorem outT_all (s:List Ln):bK7 s 32=aT4 s 32:=by simp[bK7]
theorem bW7 (s:List Ln):(bK7 s 0).map bv=(madeCells #[Value.int .u8 0] 32).toList:=by
 rw[toList_madeCells_one]
 rfl
theorem or_last (b:List UInt8) (n:Nat):bits .or .u8 (((aQ1 b n).getD ((aQ1 b n).length - 1) 0).toNat:Int) 128=(((aQ1 b n).getD ((aQ1 b n).length - 1) 0+128).toNat:Int):=by
 rw[pad_last]
 split <;> rfl
theorem cR3 (w:World) (A:Option Addr) (b:List UInt8) (c:Nat) (ha:Bs All w A b) (hn:b.length≤1000000) (hT:bD w) :
  Calls Tryz.prog 82 #[.slice A b.length c] w (aT3 1 bI0 w (aL2 b)):=by
 obtain⟨i0,hi0,hz0,hz1,hz2⟩:=info_parts info_u8
 have Ha:=zh ha
 have HT:=zh hT
 have Hlt:=zh (show 4<w.heap.size∧2<w.heap.size∧3<w.heap.size from ⟨World.block_lt_of_cell? w _ (hT.rounds 0 AO),World.block_lt_of_cell? w _ (hT.goes 0 _ rfl),World.block_lt_of_cell? w _ (hT.turns 0 AO)⟩)
 clear ha hT
 go_enter Tryz.func82,Tryz.ntmps82
 go_wp2_with (first
  | (at_builtin;refine aC0 _ rfl _ _ _ rfl w.heap.size 5 i0 (.int .u8 0) 1 1 Tryz.underlying27 hi0 hz0 hz1 hz2 rfl ZD9 (.slice none 0 0) 0 [] rfl (World.ownsRow_nil _ _ _ _) A b.length c (b.map bv) rfl ZH2 (SL.bsrc (S:=All) Ha.out) (aI3 b) ZD2 AO AO ?_;intro v1 w1 hown1 hg1 hat1)
  | (at_builtin;refine aC0 _ rfl _ _ _ rfl w.heap.size 5 i0 (.int .u8 0) 1 1 Tryz.underlying27 hi0 hz0 hz1 hz2 rfl ZD9 v1 (0+b.length) _ rfl (hown1.alloc _) (some ⟨w1.heap.size,0,none⟩) 1 1 [bv 6] rfl rfl (aJ8 _ _ _) ZG3 ZD2 AO (by have:=hg1.size;simp;omega) ?_;intro v2 w2 hown2 hg2 hat2))
 have Hp0:=zh (show w2.ownsRow w.heap.size 5 1 v2 (b.length+1+0) ((aQ1 b 0).map bv) by simpa [aQ1] using hown2)
 have Hb0:=zh (show Below w.heap.size w w2 from ((aA6 (World.ownsRow_nil w w.heap.size 5 1) hg1 zn).alloc hg1.size _).trans (aA6 (hown1.alloc _) hg2 (by have:=hg1.size;simp;omega)))
 clear hown1 hown2 hg1 hg2 hat1 hat2
 go_loopw [3] (fun v wr=>∃ k:Nat,k≤135 - b.length % 136∧wr.ownsRow w.heap.size 5 1 v (b.length+1+k) ((aQ1 b k).map bv)∧Below w.heap.size w wr) (fun v _=>b.length+137 - lenOf v)
 case atStart=>exact⟨0,AO,Hp0.out,Hb0.out⟩
 case round =>
  clear Hp0 Hb0
  obtain⟨k,hk,hown,hbel⟩:=hrel
  obtain⟨g,cap,rfl,hgb,hgl,hqc⟩:=cF0 hown AO
  have Hown:=zh hown
  have Hbel:=zh hbel
  have hlen:=cF1 b k
  have Hpl:=zh hlen
  clear hown hbel hlen
  obtain⟨q,hq⟩:∃ q,q=b.length+1+k:=⟨_,rfl⟩
  rw[← hq] at Hown hqc ⊢
  have Hq:=zh hq
  have hqb:q≤1000137:=by omega
  have hq0:0<q:=by omega
  by_cases hm:q % 136=0
  rotate_left
  ·have hk1:k+1≤135 - b.length % 136:=by omega
   have hmz:b.length+137 - (q+1)<b.length+137 - q:=by omega
   obtain⟨m,hmq⟩:∃ m,m=q % 136:=⟨_,rfl⟩
   have m1:(q:Int).tmod 136=(m:Int):=by rw[Int.tmod_eq_emod_of_nonneg AO];omega
   have m2:¬ m=0:=by omega
   have m3:((m:Int)==0)=false:=by simp;omega
   have m4:((m:Int) != 0)=true:=by simp;omega
   clear hm hmq hq
   go_wp2_with (at_builtin;refine aC0 _ rfl _ _ _ rfl w.heap.size 5 i0 (.int .u8 0) 1 1 Tryz.underlying27 hi0 hz0 hz1 hz2 rfl ZD9 _ q _ rfl (Hown.out.alloc _) (some ⟨wr.heap.size,0,none⟩) 1 1 [bv 0] rfl rfl (aJ8 _ _ _) ZG3 ZD2 AO (by have:=Hbel.out.size;simp;omega) ?_;intro v1 w1 hown1 hg1 hat1)
   obtain⟨g1,cap1,rfl,_,_,_⟩:=cF0 hown1 AO
   have Hown1:=zh (show w1.ownsRow w.heap.size 5 1 (.slice (some ⟨g1,0,none⟩) (q+1) cap1) (b.length+1+(k+1)) ((aQ1 b (k+1)).map bv) by
    have e:=Hq.out
    rw[← bW6,List.map_append,show b.length+1+(k+1)=q+1 by omega]
    exact hown1)
   have Hb1:=zh (show Below w.heap.size w w1 from (Hbel.out.alloc (Hbel.out.size) _).trans (aA6 (Hown.out.alloc _) hg1 (by have:=Hbel.out.size;simp;omega)))
   clear hown1 hg1 hat1
   go_roundw
   case rel=>exact⟨k+1,hk1,Hown1.out,Hb1.out⟩
   case measure=>exact hmz
  ·have hkq:k=135 - b.length % 136:=by omega
   obtain⟨q1,hq1⟩:∃ q1,q=q1+1:=⟨q - 1,AO⟩
   obtain⟨P,hP⟩:∃ P,P=padS b:=⟨_,rfl⟩
   obtain⟨l0,hl0⟩:∃ l0,l0=(aQ1 b k).getD q1 0:=⟨_,rfl⟩
   have hlen:(aQ1 b k).length=q:=by rw[Hpl.out,hq]
   have hor:bits .or .u8 (l0.toNat:Int) 128=((l0+128).toNat:Int):=by
    have h:=or_last b k
    rw[hlen,hq1,Nat.add_sub_cancel,← hl0] at h
    exact h
   have hPe:P=(aQ1 b k).set q1 (l0+128):=by
    rw[hP,pad_eq,← hkq,hlen,hq1,Nat.add_sub_cancel,hl0]
   have hPl:P.length=q:=by rw[hPe,List.length_set,hlen]
   have hg4:=Hown.out.stored q1 (bv (l0+128))
   have Hrow:=zh (show (wr.setCell ⟨g,q1,none⟩ (bv (l0+128))).ownsRow w.heap.size 5 1 (.slice (some ⟨g,0,none⟩) P.length cap) P.length (P.map bv) by
    rw[hPl,hPe,List.map_set]
    exact hg4.1)
   have c1:wr.cell? ⟨g,q1,none⟩=some (.int .u8 (l0.toNat:Int)):=by
    rw[Hown.out.cellAt q1 AO,List.getElem?_map,List.getElem?_eq_getElem AO,hl0,List.getD_eq_getElem?_getD,List.getElem?_eq_getElem AO]
    rfl
   have fz:=Hown.out.frozenAt q1
   have m1:(q:Int).tmod 136=0:=by rw[Int.tmod_eq_emod_of_nonneg AO];omega
   have m2:IntKind.i64.wrap ((q:Int) - 1)=(q1:Int):=by rw[IntWalk.i64_in _ AO];omega
   have m3:(q1:Int)<(q:Int):=by omega
   obtain⟨nb,hnb⟩:∃ nb,q=136*nb:=⟨q / 136,AO⟩
   have Hnb:=zh hnb
   have HP:=zh hP
   have HPl:=zh hPl
   have Hor:=zh (show Value.int .u8 (bits .or .u8 (l0.toNat:Int) 128)=bv (l0+128) by rw[hor];rfl)
   clear hnb hP hPl hPe hlen hl0 hkq hq hg4 hor hm hq1
   go_wp2
   have HR:=zh (show bC1 w g cap wr.heap.size P ((wr.setCell ⟨g,q1,none⟩ (bv (l0+128))).alloc (.cells (uc (spS P 0)).toArray 203)) from
    ⟨Hrow.out.alloc _,(Hbel.out.setCell hgb _).alloc (Nat.le_trans Hbel.out.size ZH2) _,by simp;omega,AO,Hbel.out.size⟩)
   have HS:=zh (show StB ((wr.setCell ⟨g,q1,none⟩ (bv (l0+128))).alloc (.cells (uc (spS P 0)).toArray 203)) wr.heap.size (spS P 0) by
    have h:=aK (wr.setCell ⟨g,q1,none⟩ (bv (l0+128))) (uc (spS P 0)).toArray 203
    have e:(wr.setCell ⟨g,q1,none⟩ (bv (l0+128))).heap.size=wr.heap.size:=by simp
    rw[e] at h
    exact h)
   have HbG:=zh Hbel.out.size
   generalize hGe:wr.heap.size=G at HR HS HbG ⊢
   go_loopw [3,5,6] (fun v _ _ w2=>∃ j o cj:Nat,j≤nb∧v=.slice (some ⟨g,o,none⟩) (q - 136*j) cj∧(j<nb→o=136*j)∧q - 136*j≤cj∧StB w2 G (spS P j)∧bC1 w g cap G P w2) (fun v _ _ _=>lenOf v)
   case atStart =>
    refine⟨0,0,cap,AO,by simp,by simp,AO,?_,?_⟩
    ·have h:=HS.out;rw[← Hor.out] at h;exact h
    ·have h:=HR.out;rw[← Hor.out] at h;exact h
   case round =>
    clear HR HS c1 fz Hrow Hor hgl hGe Hbel Hown
    obtain⟨j,o,cj,hj,rfl,ho,hc,hS,hR⟩:=hrel
    have HS:=zh hS
    have HR:=zh hR
    clear hS hR
    obtain⟨L,hL⟩:∃ L,L=q - 136*j:=⟨_,rfl⟩
    rw[← hL] at hc ⊢
    by_cases hlt:j<nb
    ·have hq:=Hnb.out
     have ho':=ho hlt
     have hL1:136≤L:=by omega
     have hL0n:0<L:=by omega
     have hL0:(0:Int)<(L:Int):=by omega
     have hLd:decide ((0:Int)<(L:Int))=true:=decide_eq_true hL0
     have hoL:o+L=q:=by omega
     have Ho:=zh ho'
     have HL:=zh hL
     clear ho ho' hL hq
     go_wp2
     go_loopw [5,33] (fun _ i w3=>∃ x:Nat,x≤136∧i=.int .i64 x∧StB w3 G (aG9 (spS P j) (P.drop o) x)∧bC1 w g cap G P w3) (fun _ i _=>136 - (intOf i).toNat)
     case atStart=>exact⟨0,AO,rfl,by rw[cE7 (sp_len P j)];exact HS.out,HR.out⟩
     case round =>
      clear HS HR
      obtain⟨x,hx,rfl,hS2,hR2⟩:=hrel
      have HS2:=zh hS2
      have HR2:=zh hR2
      clear hS2 hR2
      by_cases hlt2:x<136
      ·obtain⟨d,hd⟩:∃ d,d=x / 8:=⟨_,rfl⟩
       obtain⟨e,he⟩:∃ e,e=x % 8:=⟨_,rfl⟩
       obtain⟨bt,hbt⟩:∃ bt,bt=aJ3 P (o+x):=⟨_,rfl⟩
       have hbl:bt<256:=by rw[hbt];exact bZ9 _ _
       have hbd:aJ3 (P.drop o) x=bt:=by rw[hbt,aJ3,aJ3,List.getD_eq_getElem?_getD,List.getD_eq_getElem?_getD,List.getElem?_drop]
       have m1:(x:Int).tdiv 8=(d:Int):=by rw[Int.tdiv_eq_ediv_of_nonneg AO];omega
       have m2:(x:Int).tmod 8=(e:Int):=by rw[Int.tmod_eq_emod_of_nonneg AO];omega
       have m3:IntKind.i64.wrap (d:Int)=(d:Int):=IntWalk.i64_in _ AO
       have m4:IntKind.i64.wrap ((e:Int)*8)=(e:Int)*8:=IntWalk.i64_in _ AO
       have m5:(0:Int)≤(e:Int)*8:=by omega
       have m6:((e:Int)*8).toNat=e*8:=by omega
       have n1:(d:Int)<25:=by omega
       have n2:(x:Int)<(L:Int):=by omega
       have n3:(x:Int)<136:=by omega
       have mb:IntKind.u64.wrap (bt:Int)=(bt:Int):=by rw[IntKind.wrap_u64];omega
       have hx8:min (e*8) 64=e*8:=by omega
       have Hv:=zh (show bits .xor .u64 (uv (ga (aG9 (spS P j) (P.drop o) x) d)) (IntKind.u64.wrap ((bt:Int)*2 ^ min (e*8) 64))=uv (ga (aG9 (spS P j) (P.drop o) x) (x / 8) ^^^ BitVec.ofNat 64 (aJ3 (P.drop o) x*2 ^ (x % 8*8))) by
        have h:=byte_shl (P.getD (o+x) 0) (s:=e*8) AO
        rw[hx8] at h
        have h':IntKind.u64.wrap ((bt:Int)*2 ^ (e*8))=uv (BitVec.ofNat 64 (bt*2 ^ (e*8))):=by rw[hbt];exact h
        rw[hx8,h',aT5,hbd,hd,he])
       have Hd:=zh (show StB wr.drew G (aG9 (spS P j) (P.drop o) x)∧bC1 w g cap G P wr.drew from ⟨HS2.out,HR2.out.stirs (aF6.refl _ _).drew⟩)
       have Hbt:=zh hbt
       have Hd8:=zh hd
       clear hd he hbt hbd hx8
       go_wp2_with fail
       refine wp_region_still_tail 15 ZG0 ZG0 ?_
       change wpStill _ _ wr.drew (fun a'=>wpList _ _ _ _ a' wr.drew) _ _
       generalize wr.drew=wd at Hd ⊢
       have c0:=aF0 Hd.out.1 (k:=d) (by rw[aG9,aO1];omega)
       have c1:=Hd.out.2.cell (k:=o+x) (by rw[HPl.out];omega)
       rw[← Hbt.out] at c1
       have fz:=bA8 Hd.out.1 d
       (simp only[List.take_succ_cons,List.take_zero,List.drop_succ_cons,List.drop_zero];(repeat (refine wpStill_step (fun K hK=>?_);go_simp;refine hK _ ?_;clear hK K));try refine wpStill_nil ?_)
       go_wp2
       go_roundw
       case rel =>
        refine⟨x+1,AO,by go_num,?_,Hd.out.2.stirs ((aF6.refl _ _).set _ _)⟩
        have e:=StB.set Hd.out.1 d (ga (aG9 (spS P j) (P.drop o) x) (x / 8) ^^^ BitVec.ofNat 64 (aJ3 (P.drop o) x*2 ^ (x % 8*8)))
        rw[← Hv.out] at e
        rw[← cE8 (spS P j) (P.drop o) hlt2]
        simp only[← Hd8.out] at e ⊢
        exact e
       case measure=>simp[intOf];omega
      ·have HSa:=zh (show StB wr G (aZ3 (bA7 (spS P j) (P.drop o)) 0) by have h:=HS2.out;rw[show x=136 by omega,cL6] at h;exact h)
       have hn136:¬ (x:Int)<136:=by omega
       clear hlt2 hx HS2
       go_wp2
       go_loopw [6,52] (fun _ i w3=>∃ r:Nat,r≤24∧i=.int .i64 r∧StB w3 G (aZ3 (bA7 (spS P j) (P.drop o)) r)∧bC1 w g cap G P w3) (fun _ i _=>24 - (intOf i).toNat)
       case atStart=>exact⟨0,AO,rfl,HSa.out,HR2.out⟩
       case round =>
        clear HSa HR2 hn136
        obtain⟨r,hr,rfl,hS3,hR3⟩:=hrel
        have HS3:=zh hS3
        have HR3:=zh hR3
        clear hS3 hR3
        by_cases hlt3:r<24
        ·have r24:(r:Int)<24:=by omega
         have hst:=stir_ok wr G (aZ3 (bA7 (spS P j) (P.drop o)) r) r HS3.out (bW4 (by rw[bA7,aO1]) r) hlt3 (HT.out.below HR3.out.below) ⟨by have:=Hlt.out;have:=HbG.out;omega,by have:=Hlt.out;have:=HbG.out;omega,by have:=Hlt.out;have:=HbG.out;omega⟩
         go_wp2_with ((go_at_call 109;(with_reducible refine hst.mono ?_);rintro e w1 ⟨rfl,hs1,ht1⟩))
         go_roundw
         case rel=>exact⟨r+1,AO,by go_num,by rw[bO7];exact hs1,HR3.out.stirs ht1⟩
         case measure=>simp[intOf];omega
        ·have HSn:=zh (show StB wr G (spS P (j+1)) by have h:=HS3.out;rw[show r=24 by omega,Ho.out] at h;exact h)
         have hn24:¬ (r:Int)<24:=by omega
         clear hlt3 hr HS3
         go_wp2
         have q1:=HL.out
         have q2:=Ho.out
         have q3:=Hnb.out
         go_roundw
         case rel =>
          have e1:L - 136=q - 136*(j+1):=by omega
          by_cases h136:cj=136
          ·rw[if_pos h136,e1]
           exact⟨j+1,o,cj - 136,AO,rfl,fun h=>by omega,AO,HSn.out,HR3.out⟩
          ·rw[if_neg h136,e1]
           exact⟨j+1,o+136,cj - 136,AO,rfl,fun h=>by omega,AO,HSn.out,HR3.out⟩
         case measure =>
          show L - 136<L
          omega
    ·obtain⟨st,hst⟩:∃ st,st=spS P nb:=⟨_,rfl⟩
     have HSe:=zh (show StB wr G st by have h:=HS.out;rwa [show j=nb by omega,← hst] at h)
     have HD:=zh (show aT4 st 32=aL2 b by rw[hst,HP.out,aL2];congr 2;have h1:=Hnb.out;have h2:=HPl.out;rw[HP.out] at h2;omega)
     have hstl:st.length=25:=by rw[hst];exact sp_len P nb
     have hmk:∀ w:World,(Instr.makeSlice 27 (.int .i64 32) (.int .i64 32)).run Tryz.prog w=.ok (.slice (some ⟨w.heap.size,0,none⟩) 32 32) (w.alloc (.cells (madeCells #[Value.int .u8 0] 32) 5)):=run_make_row' (P:=Tryz.prog) 27 5 (.int .u8 0) 1 Tryz.underlying27 info_u8 rfl .i64 .i64 32 AO AO
     have hL0:¬ (0:Int)<(L:Int):=by have:=Hnb.out;omega
     have hL0n:¬ 0<L:=by omega
     have hLd:decide ((0:Int)<(L:Int))=false:=decide_eq_false hL0
     have hGl:G<wr.heap.size:=(Array.getElem?_eq_some_iff.1 HS.out).1
     clear hst HS hlt hj ho hL hc
     go_wp2
     have Hr0:=zh (show (wr.alloc (.cells (madeCells #[Value.int .u8 0] 32) 5)).ownsRow w.heap.size 5 1 (.slice (some ⟨wr.heap.size,0,none⟩) 32 32) 32 ((bK7 st 0).map bv) by
      rw[bW7]
      exact World.ownsRow_lit wr _ 32 HR.out.below.size ZD2 (by have h:=congrArg List.length (bW7 st);rw[List.length_map,bP2 st AO] at h;simpa using h.symm))
     have Hs0:=zh (show StB (wr.alloc (.cells (madeCells #[Value.int .u8 0] 32) 5)) G st from (heap_alloc_old _ _ hGl).trans HSe.out)
     have Hb0:=zh (show Below w.heap.size w (wr.alloc (.cells (madeCells #[Value.int .u8 0] 32) 5)) from HR.out.below.alloc HR.out.below.size _)
     have HbO:=zh HR.out.below.size
     generalize hOe:wr.heap.size=O at Hr0 HbO ⊢
     go_loopw [8,61] (fun _ i w3=>∃ x:Nat,x≤32∧i=.int .i64 x∧w3.ownsRow w.heap.size 5 1 (.slice (some ⟨O,0,none⟩) 32 32) 32 ((bK7 st x).map bv)∧StB w3 G st∧Below w.heap.size w w3) (fun _ i _=>32 - (intOf i).toNat)
     case atStart=>exact⟨0,AO,rfl,Hr0.out,Hs0.out,Hb0.out⟩
     case round =>
      have hGO:G≠O:=by omega
      clear Hr0 Hs0 Hb0 HR HSe hGl hOe
      obtain⟨x,hx,rfl,hR2,hS2,hB2⟩:=hrel
      have HR2:=zh hR2
      have HS2:=zh hS2
      have HB2:=zh hB2
      clear hR2 hS2 hB2
      by_cases hlt2:x<32
      ·obtain⟨d,hd⟩:∃ d,d=x / 8:=⟨_,rfl⟩
       obtain⟨e,he⟩:∃ e,e=x % 8:=⟨_,rfl⟩
       have m1:(x:Int).tdiv 8=(d:Int):=by rw[Int.tdiv_eq_ediv_of_nonneg AO];omega
       have m2:(x:Int).tmod 8=(e:Int):=by rw[Int.tmod_eq_emod_of_nonneg AO];omega
       have m3:IntKind.i64.wrap (d:Int)=(d:Int):=IntWalk.i64_in _ AO
       have m4:IntKind.i64.wrap ((e:Int)*8)=(e:Int)*8:=IntWalk.i64_in _ AO
       have m5:(0:Int)≤(e:Int)*8:=by omega
       have m6:((e:Int)*8).toNat=e*8:=by omega
       have n1:(d:Int)<25:=by omega
       have n3:(x:Int)<32:=by omega
       have Hv:=zh (show Value.int .u8 (IntKind.u8.wrap (uv (ga st d) / 2 ^ min (e*8) 64))=bv (UInt8.ofNat ((ga st (x / 8)).toNat / 2 ^ (x % 8*8) % 256)) by rw[byte_shr _ AO,hd,he];rfl)
       have c0:=aF0 HS2.out (k:=d) AO
       have c1:wr.cell? ⟨O,x,none⟩=some (bv ((bK7 st x).getD x 0)):=by
        rw[HR2.out.cellAt x AO,List.getElem?_map,List.getElem?_eq_getElem (by rw[bP2 st AO];omega),List.getD_eq_getElem?_getD,List.getElem?_eq_getElem (by rw[bP2 st AO];omega)]
        rfl
       have fz:=HR2.out.frozenAt x
       have Hst:=zh (HR2.out.stored x (bv (UInt8.ofNat ((ga st (x / 8)).toNat / 2 ^ (x % 8*8) % 256)))).1
       clear hd he
       go_wp2
       go_roundw
       case rel =>
        refine⟨x+1,AO,by go_num,?_,(Below.heap_setCell _ _ _ _ hGO).trans HS2.out,HB2.out.setCell HbO.out _⟩
        have h:=Hst.out
        rw[← List.map_set,cU0 st hlt2,← Hv.out] at h
        exact h
       case measure=>simp[intOf];omega
      ·have HRe:=zh (show wr.ownsRow w.heap.size 5 1 (.slice (some ⟨O,0,none⟩) 32 32) 32 ((aL2 b).map bv) by have h:=HR2.out;rwa [show x=32 by omega,outT_all,HD.out] at h)
       have hn32:¬ (x:Int)<32:=by omega
       clear hlt2 hx HR2
       go_wp2
       go_ret
       exact bA1 HRe.out HB2.out
theorem sum_ok (w:World) (A:Option Addr) (b:List UInt8) (c:Nat) (ha:Bs All w A b) (hn:b.length≤1000000) (hT:bD w) :
  Calls Tryz.prog 82 #[.slice A b.length c] w (bU7 w (aL2 b)) :=
 (cR3 w A b c ha hn hT).mono fun _ _ h=>h.bare
end Go.Proofs.YtodopbnhkkkcbaaGreatDoor
