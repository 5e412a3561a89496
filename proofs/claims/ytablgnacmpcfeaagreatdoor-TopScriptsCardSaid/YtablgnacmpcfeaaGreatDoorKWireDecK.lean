/- WireDecK: Walk: wire.Decode of a request that has a kind. Walk: wire.Decode. The conditions of each are in its words. -/
import Derived.Test.YtablgnacmpcfeaaGreatDoorKWireR
namespace Go.Proofs.YtablgnacmpcfeaaGreatDoor
open Go.RowKit
set_option linter.unusedVariables false
set_option linter.unusedSimpArgs false
set_option maxRecDepth 100000
set_option maxHeartbeats 64000000
theorem dV4 (w:World) (hT:bL w) (P:Option Addr) (b:List UInt8) (pc k:Nat) (hb:Bs All w P b) (hpc:b.length≤pc) (h4:b.length≤4000) (h1:1≤b.length) (hk:(b.getD 0 0).toNat=k) (hk1:1≤k) (hk8:k≤8) (pt:Nat) (hh:bO k=pt) (hH:pt=0∨pt=3∨pt=7∨pt=11) :
  Calls Tryz.prog 23 #[.slice P b.length pc] w (bR1 w (aK7 k pt (b.drop 1,false))):=by
 obtain⟨g,off,rfl,hc0⟩:=aK3 hb h1
 rw[hk] at hc0
 have Hb:=zh hb
 have HT:=zh hT
 have Hg:=zh (hT k AO)
 rw[hh] at Hg
 have hgl:=World.block_lt_of_cell? w _ hc0
 have hka:¬ (k:Int)<1:=by omega
 have hkb:¬ (8:Int)<(k:Int):=by omega
 have hkc:(0:Int)≤(k:Int):=by omega
 have hkd:(k:Int)<9:=by omega
 have hke:k≠0:=by omega
 have hb4:¬ (4000:Int)<(b.length:Int):=by omega
 have hb0:((b.length:Int)==0)=false:=by simp;intro h;rw[h] at h1;simp at h1
 have hbn:b≠[]:=by intro h;rw[h] at h1;simp at h1
 have i0:(0:Int)<(b.length:Int):=by omega
 have s1:(1:Int)≤(b.length:Int):=by omega
 have s2:(b.length:Int)≤(pc:Int):=by omega
 have s3:(1:Int)≤(pc:Int):=by omega
 obtain⟨s,es⟩:∃ s:Rdr,s=(b.drop 1,false):=⟨_,rfl⟩
 have hD0:∀ X xc,b.length - 1≤xc→Bs (Lo w.heap.size) ((w.alloc (.cells #[.int .i64 0,.slice none 0 0,.slice none 0 0,.slice none 0 0,.slice none 0 0] 48)).alloc (.cells #[.int .i64 k,.slice none 0 0,.slice none 0 0,.slice none 0 0,.slice none 0 0] 48)) X (b.drop 1)→DRq w k pt s 0 (.slice X (b.length - 1) xc) ((w.alloc (.cells #[.int .i64 0,.slice none 0 0,.slice none 0 0,.slice none 0 0,.slice none 0 0] 48)).alloc (.cells #[.int .i64 k,.slice none 0 0,.slice none 0 0,.slice none 0 0,.slice none 0 0] 48)):=fun X xc hx hX=>by
  subst es
  obtain⟨h2,h3,h5,h6⟩:=cB0 w (.cells #[.int .i64 0,.slice none 0 0,.slice none 0 0,.slice none 0 0,.slice none 0 0] 48) (.cells #[.int .i64 k,.slice none 0 0,.slice none 0 0,.slice none 0 0,.slice none 0 0] 48)
  exact ZA5
 have Hlo:=zh (show Bs (Lo w.heap.size) ((w.alloc (.cells #[.int .i64 0,.slice none 0 0,.slice none 0 0,.slice none 0 0,.slice none 0 0] 48)).alloc (.cells #[.int .i64 k,.slice none 0 0,.slice none 0 0,.slice none 0 0,.slice none 0 0] 48)) (some ⟨g,off,none⟩) b from (hb.low byteR_stays zn).bsame (aC.of_low (((Below.refl _ _).alloc zn _).alloc ZH2 _)))
 have HD0:=zh hD0
 rw[← es]
 have hs4:s.1.length≤4000:=by rw[es];show (b.drop 1).length≤4000;rw[List.length_drop];omega
 have c0:bits .and .i64 0 1=0:=by decide
 have c1:bits .and .i64 1 1=1:=by decide
 have c2:bits .and .i64 2 1=0:=by decide
 have c3:bits .and .i64 3 1=1:=by decide
 have c4:bits .and .i64 5 1=1:=by decide
 have c5:bits .and .i64 7 1=1:=by decide
 have c6:bits .and .i64 11 1=1:=by decide
 have x0:∀ W:World,(Instr.index 134 (.agg #[.pointer (some ⟨w.heap.size+1,1,none⟩),.pointer (some ⟨w.heap.size+1,2,none⟩),.pointer (some ⟨w.heap.size+1,3,none⟩),.pointer (some ⟨w.heap.size+1,4,none⟩)]) (.int .i64 0)).run Tryz.prog W=.ok (.pointer (some ⟨w.heap.size+1,1,none⟩)) W:=fun _=>by kernel_rfl
 have x1:∀ W:World,(Instr.index 134 (.agg #[.pointer (some ⟨w.heap.size+1,1,none⟩),.pointer (some ⟨w.heap.size+1,2,none⟩),.pointer (some ⟨w.heap.size+1,3,none⟩),.pointer (some ⟨w.heap.size+1,4,none⟩)]) (.int .i64 1)).run Tryz.prog W=.ok (.pointer (some ⟨w.heap.size+1,2,none⟩)) W:=fun _=>by kernel_rfl
 have x2:∀ W:World,(Instr.index 134 (.agg #[.pointer (some ⟨w.heap.size+1,1,none⟩),.pointer (some ⟨w.heap.size+1,2,none⟩),.pointer (some ⟨w.heap.size+1,3,none⟩),.pointer (some ⟨w.heap.size+1,4,none⟩)]) (.int .i64 2)).run Tryz.prog W=.ok (.pointer (some ⟨w.heap.size+1,3,none⟩)) W:=fun _=>by kernel_rfl
 have x3:∀ W:World,(Instr.index 134 (.agg #[.pointer (some ⟨w.heap.size+1,1,none⟩),.pointer (some ⟨w.heap.size+1,2,none⟩),.pointer (some ⟨w.heap.size+1,3,none⟩),.pointer (some ⟨w.heap.size+1,4,none⟩)]) (.int .i64 3)).run Tryz.prog W=.ok (.pointer (some ⟨w.heap.size+1,4,none⟩)) W:=fun _=>by kernel_rfl
 clear hb hT hh hD0 es
 go_enter Tryz.func23,Tryz.ntmps23
 go_wp2
 all_goals
  go_loopw [5,39] (fun v i wr=>∃ j:Nat,j≤4∧i=.int .i64 j∧DRq w k pt s j v wr) (fun _ i _=>4 - (intOf i).toNat)
  case atStart =>
   refine⟨0,AO,rfl,HD0.out _ _ AO ?_⟩
   first
    | (rw[List.drop_eq_nil_of_le AO];exact SL.nil)
    | (have h:=aI7 Hlo.out 1;rw[Option.map_some,bC] at h;exact h)
  case round =>
   obtain⟨j,hj,rfl,hd⟩:=hrel
   have Hd:=zh hd
   have hsz:=hd.siz
   have hlong:=hd.long
   obtain⟨X,xc,hv,hxc,hX⟩:=hd.rest
   obtain⟨A,a,B,b2,C,c,D,d,hbox,hA,hB,hC,hD⟩:=hd.box
   obtain⟨⟨g0,g1,g2,g3,g4⟩,f0,f1,f2,f3,f4⟩:=bR hbox
   have hcell:=(hd.bel.cell (p:=⟨0,k,none⟩) (World.block_lt_of_cell? w _ Hg.out)).trans Hg.out
   have hq4:=Nat.le_trans (bR0 pt s j) hs4
   subst hv
   have HX:=zh hX
   have HA:=zh hA
   have HB:=zh hB
   have HC:=zh hC
   have HDD:=zh hD
   clear hd hX hA hB hC hD
   rcases (by omega:j=0∨j=1∨j=2∨j=3∨j=4) with rfl|rfl|rfl|rfl|rfl
   ·by_cases hb:pt / 2 ^ 0 % 2=1
    ·have hpair:aW pt s 0=((aW pt s 0).1,false):=Prod.ext rfl hlong
     have hr0:aW pt s 1=(aZ (aW pt s 0)).2:=by show (bJ pt 0 (aW pt s 0)).2=_;unfold bJ;rw[if_pos hb]
     have hf0:fAt pt s 0=(aZ (aW pt s 0)).1:=by unfold fAt bJ;rw[if_pos hb]
     rw[hpair] at hr0 hf0
     have Hr0:=zh hr0
     have Hf0:=zh hf0
     have Hend:=zh (show (aZ ((aW pt s 0).1,false)).2.2=true→aK7 k pt s=(rq0,14) from fun h=>by unfold aK7;rw[if_pos (aJ4 (j:=1) AO (by rw[Hr0.out];exact h))])
     clear hpair hr0 hf0 hlong
     have Q0:=zh (show fUp pt s 1 0=fAt pt s 0 from rfl)
     have Q1:=zh (show fUp pt s 1 1=fUp pt s 0 1 from rfl)
     have Q2:=zh (show fUp pt s 1 2=fUp pt s 0 2 from rfl)
     have Q3:=zh (show fUp pt s 1 3=fUp pt s 0 3 from rfl)
     generalize (aW pt s 0).1=q at *
     rcases hH with rfl|rfl|rfl|rfl <;> first|exact absurd hb ZD9|skip
     all_goals
      clear hb
      obtain⟨⟨r0,r1,r2,r3,r4⟩,rf0,rf1,rf2,rf3,rf4⟩:=bR Hd.out.res
      by_cases hq0:q.length=0
      ·have Hv:=zh (Hend.out (aC2 (.inl hq0)))
       have t0:((q.length:Int)==0)=true:=by rw[hq0];rfl
       have t1:q=[]:=List.eq_nil_of_length_eq_zero hq0
       clear hq0 hq4 hxc
       go_wp2
       refine bodyPost_ret (v:=.tuple #[.agg #[.int .i64 0,.slice none 0 0,.slice none 0 0,.slice none 0 0,.slice none 0 0],.int .i64 14]) (by simp[results,Tryz.results23,go_sem,r0,r1,r2,r3,r4]) rfl ?_
       rw[Hv.out]
       exact ZA1
      ·obtain⟨gx,ox,rfl,hx0⟩:=aK3 HX.out AO
       have hy:=(q.getD 0 0).toNat_lt
       have hq1:q≠[]:=fun h=>hq0 (by rw[h];rfl)
       have t0:((q.length:Int)==0)=false:=by simp;exact hq1
       have t2:(0:Int)<(q.length:Int):=by omega
       have hw:IntKind.i64.wrap (1+((q.getD 0 0).toNat:Int))=1+((q.getD 0 0).toNat:Int):=IntWalk.i64_in _ AO
       by_cases hq2:q.length<1+(q.getD 0 0).toNat
       ·have Hv:=zh (Hend.out (aC2 (.inr hq2)))
        have t3:decide ((q.length:Int)<1+((q.getD 0 0).toNat:Int))=true:=decide_eq_true AO
        generalize (q.getD 0 0).toNat=y at *
        clear hq2
        go_wp2
        refine bodyPost_ret (v:=.tuple #[.agg #[.int .i64 0,.slice none 0 0,.slice none 0 0,.slice none 0 0,.slice none 0 0],.int .i64 14]) (by simp[results,Tryz.results23,go_sem,r0,r1,r2,r3,r4]) rfl ?_
        rw[Hv.out]
        exact ZA1
       ·have hg:=aJ5 (q:=q) AO AO
        have Hr:=zh (Hr0.out.trans (by rw[hg]))
        have Hf:=zh (Hf0.out.trans (by rw[hg]))
        have t3:decide ((q.length:Int)<1+((q.getD 0 0).toNat:Int))=false:=decide_eq_false AO
        clear hg Hr0 Hf0 Hend hq0
        generalize (q.getD 0 0).toNat=y at *
        have y0:(0:Int)≤(1:Int):=by omega
        have y1:(1:Int)≤1+(y:Int):=by omega
        have y2:1+(y:Int)≤(xc:Int):=by omega
        have y3:1+(y:Int)≤(q.length:Int):=by omega
        have y4:(q.length:Int)≤(xc:Int):=by omega
        have y5:(0:Int)≤1+(y:Int):=by omega
        have hl:((q.drop 1).take y).length=y:=by rw[List.length_take,List.length_drop];omega
        have Hl:=zh hl
        clear hl
        go_wp2_with (go_at_call 49;(with_reducible refine (aP1 _ _ _ ((q.drop 1).take y) ?hn _ ?ha ?hb).mono ?_);(case hn=>(first|exact Hl.out.symm|(rw[Hl.out];omega)));(case hb=>(rw[Hl.out];unfold big;omega));(case ha=>(first|exact (bJ9 HX.out xc 1 y hxc).bz|exact (aN5 HX.out 1 y).bz|(rw[show (q.drop 1).take y=[] from List.eq_nil_of_length_eq_zero (by rw[Hl.out];omega)];exact SL.nil)));rintro e w5 ⟨A5,c5,rfl,_,hs5,hb5⟩;have hz5:=hb5.size;have hbox5:=(hb5.block (w.heap.size+1) AO).trans hbox;obtain⟨⟨p0,p1,p2,p3,p4⟩,pf0,pf1,pf2,pf3,pf4⟩:=bR hbox5)
        all_goals
         go_roundw
         case rel =>
          have hfr:Below w.heap.size wr w5:=hb5.mono AO
          have HXw:=fun v:Value=>((HX.out.bsame (aC.of_low hfr)).bsame ((aC.refl (Lo w.heap.size) w5).setCell (p:=⟨w.heap.size+1,1,none⟩) ZE5 v))
          refine⟨1,AO,by go_num,⟨by rw[Hr.out],?_,?_,?_,?_,?_⟩⟩
          ·rw[Hr.out]
           dsimp only
           rw[List.length_drop]
           refine⟨_,_,rfl,AO,?_⟩
           first
            | (have h:=aI7 (HXw _) (1+y);rw[Option.map_some,bC] at h;exact h)
            | (rw[List.drop_eq_nil_of_le AO];exact SL.nil)
            | exact aZ9 (HXw _) xc (1+y) hxc
            | exact aZ8 (HXw _) xc (1+y) hxc
          ·rw[Q0.out,Q1.out,Q2.out,Q3.out,Hf.out]
           refine⟨A5,c5,B,b2,C,c,D,d,?_,(hs5.blo (m:=w.heap.size+2) AO).bsame ((aC.refl _ _).setCell ZC6 _),(HB.out.bbelow hb5).bsame ((aC.refl _ _).setCell ZC6 _),(HC.out.bbelow hb5).bsame ((aC.refl _ _).setCell ZC6 _),(HDD.out.bbelow hb5).bsame ((aC.refl _ _).setCell ZC6 _)⟩
           rw[Hl.out]
           refine (heap_setCell_same _ _ _ _ _ _ hbox5).trans ?_
           first|rfl|(rw[show min y (q.length - 1)=y by omega];rfl)
          ·rw[heap_setCell_other _ _ _ _ ZG2,hb5.block _ AO]
           exact Hd.out.res
          ·exact ZB0
          ·simp;omega
         case measure=>simp[intOf]
    ·have hr:aW pt s 1=aW pt s 0:=by show (bJ pt 0 (aW pt s 0)).2=_;unfold bJ;rw[if_neg hb]
     have hf:fAt pt s 0=[]:=by unfold fAt bJ;rw[if_neg hb]
     have Q0:=zh (show fUp pt s 1 0=fUp pt s 0 0 from hf)
     have Q1:=zh (show fUp pt s 1 1=fUp pt s 0 1 from rfl)
     have Q2:=zh (show fUp pt s 1 2=fUp pt s 0 2 from rfl)
     have Q3:=zh (show fUp pt s 1 3=fUp pt s 0 3 from rfl)
     rcases hH with rfl|rfl|rfl|rfl <;> first|exact absurd ZD9 hb|skip
     all_goals
      clear hf hb
      go_wp2
      go_roundw
      case rel =>
       refine⟨1,AO,by go_num,⟨by rw[hr];exact hlong,⟨X,xc,by rw[hr],by rw[hr];exact hxc,by rw[hr];exact HX.out⟩,?_,Hd.out.res,Hd.out.bel,hsz⟩⟩
       rw[Q0.out,Q1.out,Q2.out,Q3.out]
       exact Hd.out.box
      case measure=>simp[intOf]
   ·by_cases hb:pt / 2 ^ 1 % 2=1
    ·have hpair:aW pt s 1=((aW pt s 1).1,false):=Prod.ext rfl hlong
     have hr0:aW pt s 2=(aZ (aW pt s 1)).2:=by show (bJ pt 1 (aW pt s 1)).2=_;unfold bJ;rw[if_pos hb]
     have hf0:fAt pt s 1=(aZ (aW pt s 1)).1:=by unfold fAt bJ;rw[if_pos hb]
     rw[hpair] at hr0 hf0
     have Hr0:=zh hr0
     have Hf0:=zh hf0
     have Hend:=zh (show (aZ ((aW pt s 1).1,false)).2.2=true→aK7 k pt s=(rq0,14) from fun h=>by unfold aK7;rw[if_pos (aJ4 (j:=2) AO (by rw[Hr0.out];exact h))])
     clear hpair hr0 hf0 hlong
     have Q0:=zh (show fUp pt s 2 0=fUp pt s 1 0 from rfl)
     have Q1:=zh (show fUp pt s 2 1=fAt pt s 1 from rfl)
     have Q2:=zh (show fUp pt s 2 2=fUp pt s 1 2 from rfl)
     have Q3:=zh (show fUp pt s 2 3=fUp pt s 1 3 from rfl)
     generalize (aW pt s 1).1=q at *
     rcases hH with rfl|rfl|rfl|rfl <;> first|exact absurd hb ZD9|skip
     all_goals
      clear hb
      obtain⟨⟨r0,r1,r2,r3,r4⟩,rf0,rf1,rf2,rf3,rf4⟩:=bR Hd.out.res
      by_cases hq0:q.length=0
      ·have Hv:=zh (Hend.out (aC2 (.inl hq0)))
       have t0:((q.length:Int)==0)=true:=by rw[hq0];rfl
       have t1:q=[]:=List.eq_nil_of_length_eq_zero hq0
       clear hq0 hq4 hxc
       go_wp2
       refine bodyPost_ret (v:=.tuple #[.agg #[.int .i64 0,.slice none 0 0,.slice none 0 0,.slice none 0 0,.slice none 0 0],.int .i64 14]) (by simp[results,Tryz.results23,go_sem,r0,r1,r2,r3,r4]) rfl ?_
       rw[Hv.out]
       exact ZA1
      ·obtain⟨gx,ox,rfl,hx0⟩:=aK3 HX.out AO
       have hy:=(q.getD 0 0).toNat_lt
       have hq1:q≠[]:=fun h=>hq0 (by rw[h];rfl)
       have t0:((q.length:Int)==0)=false:=by simp;exact hq1
       have t2:(0:Int)<(q.length:Int):=by omega
       have hw:IntKind.i64.wrap (1+((q.getD 0 0).toNat:Int))=1+((q.getD 0 0).toNat:Int):=IntWalk.i64_in _ AO
       by_cases hq2:q.length<1+(q.getD 0 0).toNat
       ·have Hv:=zh (Hend.out (aC2 (.inr hq2)))
        have t3:decide ((q.length:Int)<1+((q.getD 0 0).toNat:Int))=true:=decide_eq_true AO
        generalize (q.getD 0 0).toNat=y at *
        clear hq2
        go_wp2
        refine bodyPost_ret (v:=.tuple #[.agg #[.int .i64 0,.slice none 0 0,.slice none 0 0,.slice none 0 0,.slice none 0 0],.int .i64 14]) (by simp[results,Tryz.results23,go_sem,r0,r1,r2,r3,r4]) rfl ?_
        rw[Hv.out]
        exact ZA1
       ·have hg:=aJ5 (q:=q) AO AO
        have Hr:=zh (Hr0.out.trans (by rw[hg]))
        have Hf:=zh (Hf0.out.trans (by rw[hg]))
        have t3:decide ((q.length:Int)<1+((q.getD 0 0).toNat:Int))=false:=decide_eq_false AO
        clear hg Hr0 Hf0 Hend hq0
        generalize (q.getD 0 0).toNat=y at *
        have y0:(0:Int)≤(1:Int):=by omega
        have y1:(1:Int)≤1+(y:Int):=by omega
        have y2:1+(y:Int)≤(xc:Int):=by omega
        have y3:1+(y:Int)≤(q.length:Int):=by omega
        have y4:(q.length:Int)≤(xc:Int):=by omega
        have y5:(0:Int)≤1+(y:Int):=by omega
        have hl:((q.drop 1).take y).length=y:=by rw[List.length_take,List.length_drop];omega
        have Hl:=zh hl
        clear hl
        go_wp2_with (go_at_call 49;(with_reducible refine (aP1 _ _ _ ((q.drop 1).take y) ?hn _ ?ha ?hb).mono ?_);(case hn=>(first|exact Hl.out.symm|(rw[Hl.out];omega)));(case hb=>(rw[Hl.out];unfold big;omega));(case ha=>(first|exact (bJ9 HX.out xc 1 y hxc).bz|exact (aN5 HX.out 1 y).bz|(rw[show (q.drop 1).take y=[] from List.eq_nil_of_length_eq_zero (by rw[Hl.out];omega)];exact SL.nil)));rintro e w5 ⟨A5,c5,rfl,_,hs5,hb5⟩;have hz5:=hb5.size;have hbox5:=(hb5.block (w.heap.size+1) AO).trans hbox;obtain⟨⟨p0,p1,p2,p3,p4⟩,pf0,pf1,pf2,pf3,pf4⟩:=bR hbox5)
        all_goals
         go_roundw
         case rel =>
          have hfr:Below w.heap.size wr w5:=hb5.mono AO
          have HXw:=fun v:Value=>((HX.out.bsame (aC.of_low hfr)).bsame ((aC.refl (Lo w.heap.size) w5).setCell (p:=⟨w.heap.size+1,2,none⟩) ZE5 v))
          refine⟨2,AO,by go_num,⟨by rw[Hr.out],?_,?_,?_,?_,?_⟩⟩
          ·rw[Hr.out]
           dsimp only
           rw[List.length_drop]
           refine⟨_,_,rfl,AO,?_⟩
           first
            | (have h:=aI7 (HXw _) (1+y);rw[Option.map_some,bC] at h;exact h)
            | (rw[List.drop_eq_nil_of_le AO];exact SL.nil)
            | exact aZ9 (HXw _) xc (1+y) hxc
            | exact aZ8 (HXw _) xc (1+y) hxc
          ·rw[Q0.out,Q1.out,Q2.out,Q3.out,Hf.out]
           refine⟨A,a,A5,c5,C,c,D,d,?_,(HA.out.bbelow hb5).bsame ((aC.refl _ _).setCell ZC6 _),(hs5.blo (m:=w.heap.size+2) AO).bsame ((aC.refl _ _).setCell ZC6 _),(HC.out.bbelow hb5).bsame ((aC.refl _ _).setCell ZC6 _),(HDD.out.bbelow hb5).bsame ((aC.refl _ _).setCell ZC6 _)⟩
           rw[Hl.out]
           refine (heap_setCell_same _ _ _ _ _ _ hbox5).trans ?_
           first|rfl|(rw[show min y (q.length - 1)=y by omega];rfl)
          ·rw[heap_setCell_other _ _ _ _ ZG2,hb5.block _ AO]
           exact Hd.out.res
          ·exact ZB0
          ·simp;omega
         case measure=>simp[intOf]
    ·have hr:aW pt s 2=aW pt s 1:=by show (bJ pt 1 (aW pt s 1)).2=_;unfold bJ;rw[if_neg hb]
     have hf:fAt pt s 1=[]:=by unfold fAt bJ;rw[if_neg hb]
     have Q0:=zh (show fUp pt s 2 0=fUp pt s 1 0 from rfl)
     have Q1:=zh (show fUp pt s 2 1=fUp pt s 1 1 from hf)
     have Q2:=zh (show fUp pt s 2 2=fUp pt s 1 2 from rfl)
     have Q3:=zh (show fUp pt s 2 3=fUp pt s 1 3 from rfl)
     rcases hH with rfl|rfl|rfl|rfl <;> first|exact absurd ZD9 hb|skip
     all_goals
      clear hf hb
      go_wp2
      go_roundw
      case rel =>
       refine⟨2,AO,by go_num,⟨by rw[hr];exact hlong,⟨X,xc,by rw[hr],by rw[hr];exact hxc,by rw[hr];exact HX.out⟩,?_,Hd.out.res,Hd.out.bel,hsz⟩⟩
       rw[Q0.out,Q1.out,Q2.out,Q3.out]
       exact Hd.out.box
      case measure=>simp[intOf]
   ·by_cases hb:pt / 2 ^ 2 % 2=1
    ·have hpair:aW pt s 2=((aW pt s 2).1,false):=Prod.ext rfl hlong
     have hr0:aW pt s 3=(aZ (aW pt s 2)).2:=by show (bJ pt 2 (aW pt s 2)).2=_;unfold bJ;rw[if_pos hb]
     have hf0:fAt pt s 2=(aZ (aW pt s 2)).1:=by unfold fAt bJ;rw[if_pos hb]
     rw[hpair] at hr0 hf0
     have Hr0:=zh hr0
     have Hf0:=zh hf0
     have Hend:=zh (show (aZ ((aW pt s 2).1,false)).2.2=true→aK7 k pt s=(rq0,14) from fun h=>by unfold aK7;rw[if_pos (aJ4 (j:=3) AO (by rw[Hr0.out];exact h))])
     clear hpair hr0 hf0 hlong
     have Q0:=zh (show fUp pt s 3 0=fUp pt s 2 0 from rfl)
     have Q1:=zh (show fUp pt s 3 1=fUp pt s 2 1 from rfl)
     have Q2:=zh (show fUp pt s 3 2=fAt pt s 2 from rfl)
     have Q3:=zh (show fUp pt s 3 3=fUp pt s 2 3 from rfl)
     generalize (aW pt s 2).1=q at *
     rcases hH with rfl|rfl|rfl|rfl <;> first|exact absurd hb ZD9|skip
     all_goals
      clear hb
      obtain⟨⟨r0,r1,r2,r3,r4⟩,rf0,rf1,rf2,rf3,rf4⟩:=bR Hd.out.res
      by_cases hq0:q.length=0
      ·have Hv:=zh (Hend.out (aC2 (.inl hq0)))
       have t0:((q.length:Int)==0)=true:=by rw[hq0];rfl
       have t1:q=[]:=List.eq_nil_of_length_eq_zero hq0
       clear hq0 hq4 hxc
       go_wp2
       refine bodyPost_ret (v:=.tuple #[.agg #[.int .i64 0,.slice none 0 0,.slice none 0 0,.slice none 0 0,.slice none 0 0],.int .i64 14]) (by simp[results,Tryz.results23,go_sem,r0,r1,r2,r3,r4]) rfl ?_
       rw[Hv.out]
       exact ZA1
      ·obtain⟨gx,ox,rfl,hx0⟩:=aK3 HX.out AO
       have hy:=(q.getD 0 0).toNat_lt
       have hq1:q≠[]:=fun h=>hq0 (by rw[h];rfl)
       have t0:((q.length:Int)==0)=false:=by simp;exact hq1
       have t2:(0:Int)<(q.length:Int):=by omega
       have hw:IntKind.i64.wrap (1+((q.getD 0 0).toNat:Int))=1+((q.getD 0 0).toNat:Int):=IntWalk.i64_in _ AO
       by_cases hq2:q.length<1+(q.getD 0 0).toNat
       ·have Hv:=zh (Hend.out (aC2 (.inr hq2)))
        have t3:decide ((q.length:Int)<1+((q.getD 0 0).toNat:Int))=true:=decide_eq_true AO
        generalize (q.getD 0 0).toNat=y at *
        clear hq2
        go_wp2
        refine bodyPost_ret (v:=.tuple #[.agg #[.int .i64 0,.slice none 0 0,.slice none 0 0,.slice none 0 0,.slice none 0 0],.int .i64 14]) (by simp[results,Tryz.results23,go_sem,r0,r1,r2,r3,r4]) rfl ?_
        rw[Hv.out]
        exact ZA1
       ·have hg:=aJ5 (q:=q) AO AO
        have Hr:=zh (Hr0.out.trans (by rw[hg]))
        have Hf:=zh (Hf0.out.trans (by rw[hg]))
        have t3:decide ((q.length:Int)<1+((q.getD 0 0).toNat:Int))=false:=decide_eq_false AO
        clear hg Hr0 Hf0 Hend hq0
        generalize (q.getD 0 0).toNat=y at *
        have y0:(0:Int)≤(1:Int):=by omega
        have y1:(1:Int)≤1+(y:Int):=by omega
        have y2:1+(y:Int)≤(xc:Int):=by omega
        have y3:1+(y:Int)≤(q.length:Int):=by omega
        have y4:(q.length:Int)≤(xc:Int):=by omega
        have y5:(0:Int)≤1+(y:Int):=by omega
        have hl:((q.drop 1).take y).length=y:=by rw[List.length_take,List.length_drop];omega
        have Hl:=zh hl
        clear hl
        go_wp2_with (go_at_call 49;(with_reducible refine (aP1 _ _ _ ((q.drop 1).take y) ?hn _ ?ha ?hb).mono ?_);(case hn=>(first|exact Hl.out.symm|(rw[Hl.out];omega)));(case hb=>(rw[Hl.out];unfold big;omega));(case ha=>(first|exact (bJ9 HX.out xc 1 y hxc).bz|exact (aN5 HX.out 1 y).bz|(rw[show (q.drop 1).take y=[] from List.eq_nil_of_length_eq_zero (by rw[Hl.out];omega)];exact SL.nil)));rintro e w5 ⟨A5,c5,rfl,_,hs5,hb5⟩;have hz5:=hb5.size;have hbox5:=(hb5.block (w.heap.size+1) AO).trans hbox;obtain⟨⟨p0,p1,p2,p3,p4⟩,pf0,pf1,pf2,pf3,pf4⟩:=bR hbox5)
        all_goals
         go_roundw
         case rel =>
          have hfr:Below w.heap.size wr w5:=hb5.mono AO
          have HXw:=fun v:Value=>((HX.out.bsame (aC.of_low hfr)).bsame ((aC.refl (Lo w.heap.size) w5).setCell (p:=⟨w.heap.size+1,3,none⟩) ZE5 v))
          refine⟨3,AO,by go_num,⟨by rw[Hr.out],?_,?_,?_,?_,?_⟩⟩
          ·rw[Hr.out]
           dsimp only
           rw[List.length_drop]
           refine⟨_,_,rfl,AO,?_⟩
           first
            | (have h:=aI7 (HXw _) (1+y);rw[Option.map_some,bC] at h;exact h)
            | (rw[List.drop_eq_nil_of_le AO];exact SL.nil)
            | exact aZ9 (HXw _) xc (1+y) hxc
            | exact aZ8 (HXw _) xc (1+y) hxc
          ·rw[Q0.out,Q1.out,Q2.out,Q3.out,Hf.out]
           refine⟨A,a,B,b2,A5,c5,D,d,?_,(HA.out.bbelow hb5).bsame ((aC.refl _ _).setCell ZC6 _),(HB.out.bbelow hb5).bsame ((aC.refl _ _).setCell ZC6 _),(hs5.blo (m:=w.heap.size+2) AO).bsame ((aC.refl _ _).setCell ZC6 _),(HDD.out.bbelow hb5).bsame ((aC.refl _ _).setCell ZC6 _)⟩
           rw[Hl.out]
           refine (heap_setCell_same _ _ _ _ _ _ hbox5).trans ?_
           first|rfl|(rw[show min y (q.length - 1)=y by omega];rfl)
          ·rw[heap_setCell_other _ _ _ _ ZG2,hb5.block _ AO]
           exact Hd.out.res
          ·exact ZB0
          ·simp;omega
         case measure=>simp[intOf]
    ·have hr:aW pt s 3=aW pt s 2:=by show (bJ pt 2 (aW pt s 2)).2=_;unfold bJ;rw[if_neg hb]
     have hf:fAt pt s 2=[]:=by unfold fAt bJ;rw[if_neg hb]
     have Q0:=zh (show fUp pt s 3 0=fUp pt s 2 0 from rfl)
     have Q1:=zh (show fUp pt s 3 1=fUp pt s 2 1 from rfl)
     have Q2:=zh (show fUp pt s 3 2=fUp pt s 2 2 from hf)
     have Q3:=zh (show fUp pt s 3 3=fUp pt s 2 3 from rfl)
     rcases hH with rfl|rfl|rfl|rfl <;> first|exact absurd ZD9 hb|skip
     all_goals
      clear hf hb
      go_wp2
      go_roundw
      case rel =>
       refine⟨3,AO,by go_num,⟨by rw[hr];exact hlong,⟨X,xc,by rw[hr],by rw[hr];exact hxc,by rw[hr];exact HX.out⟩,?_,Hd.out.res,Hd.out.bel,hsz⟩⟩
       rw[Q0.out,Q1.out,Q2.out,Q3.out]
       exact Hd.out.box
      case measure=>simp[intOf]
   ·by_cases hb:pt / 2 ^ 3 % 2=1
    ·have hpair:aW pt s 3=((aW pt s 3).1,false):=Prod.ext rfl hlong
     have hr0:aW pt s 4=(aZ (aW pt s 3)).2:=by show (bJ pt 3 (aW pt s 3)).2=_;unfold bJ;rw[if_pos hb]
     have hf0:fAt pt s 3=(aZ (aW pt s 3)).1:=by unfold fAt bJ;rw[if_pos hb]
     rw[hpair] at hr0 hf0
     have Hr0:=zh hr0
     have Hf0:=zh hf0
     have Hend:=zh (show (aZ ((aW pt s 3).1,false)).2.2=true→aK7 k pt s=(rq0,14) from fun h=>by unfold aK7;rw[if_pos (aJ4 (j:=4) AO (by rw[Hr0.out];exact h))])
     clear hpair hr0 hf0 hlong
     have Q0:=zh (show fUp pt s 4 0=fUp pt s 3 0 from rfl)
     have Q1:=zh (show fUp pt s 4 1=fUp pt s 3 1 from rfl)
     have Q2:=zh (show fUp pt s 4 2=fUp pt s 3 2 from rfl)
     have Q3:=zh (show fUp pt s 4 3=fAt pt s 3 from rfl)
     generalize (aW pt s 3).1=q at *
     rcases hH with rfl|rfl|rfl|rfl <;> first|exact absurd hb ZD9|skip
     all_goals
      clear hb
      obtain⟨⟨r0,r1,r2,r3,r4⟩,rf0,rf1,rf2,rf3,rf4⟩:=bR Hd.out.res
      by_cases hq0:q.length=0
      ·have Hv:=zh (Hend.out (aC2 (.inl hq0)))
       have t0:((q.length:Int)==0)=true:=by rw[hq0];rfl
       have t1:q=[]:=List.eq_nil_of_length_eq_zero hq0
       clear hq0 hq4 hxc
       go_wp2
       refine bodyPost_ret (v:=.tuple #[.agg #[.int .i64 0,.slice none 0 0,.slice none 0 0,.slice none 0 0,.slice none 0 0],.int .i64 14]) (by simp[results,Tryz.results23,go_sem,r0,r1,r2,r3,r4]) rfl ?_
       rw[Hv.out]
       exact ZA1
      ·obtain⟨gx,ox,rfl,hx0⟩:=aK3 HX.out AO
       have hy:=(q.getD 0 0).toNat_lt
       have hq1:q≠[]:=fun h=>hq0 (by rw[h];rfl)
       have t0:((q.length:Int)==0)=false:=by simp;exact hq1
       have t2:(0:Int)<(q.length:Int):=by omega
       have hw:IntKind.i64.wrap (1+((q.getD 0 0).toNat:Int))=1+((q.getD 0 0).toNat:Int):=IntWalk.i64_in _ AO
       by_cases hq2:q.length<1+(q.getD 0 0).toNat
       ·have Hv:=zh (Hend.out (aC2 (.inr hq2)))
        have t3:decide ((q.length:Int)<1+((q.getD 0 0).toNat:Int))=true:=decide_eq_true AO
        generalize (q.getD 0 0).toNat=y at *
        clear hq2
        go_wp2
        refine bodyPost_ret (v:=.tuple #[.agg #[.int .i64 0,.slice none 0 0,.slice none 0 0,.slice none 0 0,.slice none 0 0],.int .i64 14]) (by simp[results,Tryz.results23,go_sem,r0,r1,r2,r3,r4]) rfl ?_
        rw[Hv.out]
        exact ZA1
       ·have hg:=aJ5 (q:=q) AO AO
        have Hr:=zh (Hr0.out.trans (by rw[hg]))
        have Hf:=zh (Hf0.out.trans (by rw[hg]))
        have t3:decide ((q.length:Int)<1+((q.getD 0 0).toNat:Int))=false:=decide_eq_false AO
        clear hg Hr0 Hf0 Hend hq0
        generalize (q.getD 0 0).toNat=y at *
        have y0:(0:Int)≤(1:Int):=by omega
        have y1:(1:Int)≤1+(y:Int):=by omega
        have y2:1+(y:Int)≤(xc:Int):=by omega
        have y3:1+(y:Int)≤(q.length:Int):=by omega
        have y4:(q.length:Int)≤(xc:Int):=by omega
        have y5:(0:Int)≤1+(y:Int):=by omega
        have hl:((q.drop 1).take y).length=y:=by rw[List.length_take,List.length_drop];omega
        have Hl:=zh hl
        clear hl
        go_wp2_with (go_at_call 49;(with_reducible refine (aP1 _ _ _ ((q.drop 1).take y) ?hn _ ?ha ?hb).mono ?_);(case hn=>(first|exact Hl.out.symm|(rw[Hl.out];omega)));(case hb=>(rw[Hl.out];unfold big;omega));(case ha=>(first|exact (bJ9 HX.out xc 1 y hxc).bz|exact (aN5 HX.out 1 y).bz|(rw[show (q.drop 1).take y=[] from List.eq_nil_of_length_eq_zero (by rw[Hl.out];omega)];exact SL.nil)));rintro e w5 ⟨A5,c5,rfl,_,hs5,hb5⟩;have hz5:=hb5.size;have hbox5:=(hb5.block (w.heap.size+1) AO).trans hbox;obtain⟨⟨p0,p1,p2,p3,p4⟩,pf0,pf1,pf2,pf3,pf4⟩:=bR hbox5)
        all_goals
         go_roundw
         case rel =>
          have hfr:Below w.heap.size wr w5:=hb5.mono AO
          have HXw:=fun v:Value=>((HX.out.bsame (aC.of_low hfr)).bsame ((aC.refl (Lo w.heap.size) w5).setCell (p:=⟨w.heap.size+1,4,none⟩) ZE5 v))
          refine⟨4,AO,by go_num,⟨by rw[Hr.out],?_,?_,?_,?_,?_⟩⟩
          ·rw[Hr.out]
           dsimp only
           rw[List.length_drop]
           refine⟨_,_,rfl,AO,?_⟩
           first
            | (have h:=aI7 (HXw _) (1+y);rw[Option.map_some,bC] at h;exact h)
            | (rw[List.drop_eq_nil_of_le AO];exact SL.nil)
            | exact aZ9 (HXw _) xc (1+y) hxc
            | exact aZ8 (HXw _) xc (1+y) hxc
          ·rw[Q0.out,Q1.out,Q2.out,Q3.out,Hf.out]
           refine⟨A,a,B,b2,C,c,A5,c5,?_,(HA.out.bbelow hb5).bsame ((aC.refl _ _).setCell ZC6 _),(HB.out.bbelow hb5).bsame ((aC.refl _ _).setCell ZC6 _),(HC.out.bbelow hb5).bsame ((aC.refl _ _).setCell ZC6 _),(hs5.blo (m:=w.heap.size+2) AO).bsame ((aC.refl _ _).setCell ZC6 _)⟩
           rw[Hl.out]
           refine (heap_setCell_same _ _ _ _ _ _ hbox5).trans ?_
           first|rfl|(rw[show min y (q.length - 1)=y by omega];rfl)
          ·rw[heap_setCell_other _ _ _ _ ZG2,hb5.block _ AO]
           exact Hd.out.res
          ·exact ZB0
          ·simp;omega
         case measure=>simp[intOf]
    ·have hr:aW pt s 4=aW pt s 3:=by show (bJ pt 3 (aW pt s 3)).2=_;unfold bJ;rw[if_neg hb]
     have hf:fAt pt s 3=[]:=by unfold fAt bJ;rw[if_neg hb]
     have Q0:=zh (show fUp pt s 4 0=fUp pt s 3 0 from rfl)
     have Q1:=zh (show fUp pt s 4 1=fUp pt s 3 1 from rfl)
     have Q2:=zh (show fUp pt s 4 2=fUp pt s 3 2 from rfl)
     have Q3:=zh (show fUp pt s 4 3=fUp pt s 3 3 from hf)
     rcases hH with rfl|rfl|rfl|rfl <;> first|exact absurd ZD9 hb|skip
     all_goals
      clear hf hb
      go_wp2
      go_roundw
      case rel =>
       refine⟨4,AO,by go_num,⟨by rw[hr];exact hlong,⟨X,xc,by rw[hr],by rw[hr];exact hxc,by rw[hr];exact HX.out⟩,?_,Hd.out.res,Hd.out.bel,hsz⟩⟩
       rw[Q0.out,Q1.out,Q2.out,Q3.out]
       exact Hd.out.box
      case measure=>simp[intOf]
   ·have hpair:aW pt s 4=((aW pt s 4).1,false):=Prod.ext rfl hlong
    rw[show fUp pt s 4 0=fAt pt s 0 from rfl] at hbox g1
    rw[show fUp pt s 4 1=fAt pt s 1 from rfl] at hbox g2
    rw[show fUp pt s 4 2=fAt pt s 2 from rfl] at hbox g3
    rw[show fUp pt s 4 3=fAt pt s 3 from rfl] at hbox g4
    have HA':=zh (show Bs (aB (w.heap.size+2)) wr A (fAt pt s 0) from HA.out)
    have HB':=zh (show Bs (aB (w.heap.size+2)) wr B (fAt pt s 1) from HB.out)
    have HC':=zh (show Bs (aB (w.heap.size+2)) wr C (fAt pt s 2) from HC.out)
    have HDD':=zh (show Bs (aB (w.heap.size+2)) wr D (fAt pt s 3) from HDD.out)
    have Hck:=zh (show ∀ W,bL W→Calls Tryz.prog 50 #[.agg #[.int .i64 (k:Int),.slice A (fAt pt s 0).length a,.slice B (fAt pt s 1).length b2,.slice C (fAt pt s 2).length c,.slice D (fAt pt s 3).length d]] W (bQ W (.int .i64 (aQ (rqS k pt s)))) from fun W h=>aD7 W h A B C D (rqS k pt s) a b2 c d)
    have Hdec:=zh (show aK7 k pt s=if 0<(aW pt s 4).1.length then (rq0,4) else if aQ (rqS k pt s)≠0 then (rq0,aQ (rqS k pt s)) else (⟨k,fAt pt s 0,fAt pt s 1,fAt pt s 2,fAt pt s 3⟩,0) by unfold aK7;rw[if_neg (by rw[hlong];decide)];rfl)
    clear hpair hlong HA HB HC HDD
    generalize (aW pt s 4).1=q at *
    generalize aQ (rqS k pt s)=fault at *
    generalize fAt pt s 0=xn at *
    generalize fAt pt s 1=xk at *
    generalize fAt pt s 2=xl at *
    generalize fAt pt s 3=xv at *
    obtain⟨⟨r0,r1,r2,r3,r4⟩,rf0,rf1,rf2,rf3,rf4⟩:=bR Hd.out.res
    by_cases hq:0<q.length
    ·have Hv:=zh (Hdec.out.trans (if_pos hq))
     have t1:decide ((0:Int)<(q.length:Int))=true:=decide_eq_true AO
     go_wp2
     refine bodyPost_ret (v:=.tuple #[.agg #[.int .i64 0,.slice none 0 0,.slice none 0 0,.slice none 0 0,.slice none 0 0],.int .i64 4]) (by simp[results,Tryz.results23,go_sem,r0,r1,r2,r3,r4]) rfl ?_
     rw[Hv.out]
     exact ZA1
    ·have t1:decide ((0:Int)<(q.length:Int))=false:=decide_eq_false AO
     have Hd2:=zh (Hdec.out.trans (if_neg hq))
     by_cases he:fault=0
     ·subst he
      have Hv:=zh (Hd2.out.trans (if_neg ZD9))
      go_wp2_with (go_at_call 50;refine (Hck.out _ (HT.out.below Hd.out.bel)).mono ?_;rintro e w7 ⟨rfl,hb7⟩;have z7:=hb7.size;obtain⟨⟨u0,u1,u2,u3,u4⟩,uf0,uf1,uf2,uf3,uf4⟩:=bR ((hb7.block w.heap.size AO).trans Hd.out.res);obtain⟨⟨k0,k1,k2,k3,k4⟩,_⟩:=bR ((hb7.block (w.heap.size+1) AO).trans hbox))
      refine bodyPost_ret (v:=.tuple #[.agg #[.int .i64 k,.slice A xn.length a,.slice B xk.length b2,.slice C xl.length c,.slice D xv.length d],.int .i64 0]) (by simp[results,Tryz.results23,go_sem,u0,u1,u2,u3,u4]) rfl ?_
      rw[Hv.out]
      exact ZA0
     ·have he':(fault != 0)=true:=by simpa using he
      have Hv:=zh (Hd2.out.trans (if_pos he))
      go_wp2_with (go_at_call 50;refine (Hck.out _ (HT.out.below Hd.out.bel)).mono ?_;rintro e w7 ⟨rfl,hb7⟩;have z7:=hb7.size;obtain⟨⟨u0,u1,u2,u3,u4⟩,uf0,uf1,uf2,uf3,uf4⟩:=bR ((hb7.block w.heap.size AO).trans Hd.out.res);obtain⟨⟨k0,k1,k2,k3,k4⟩,_⟩:=bR ((hb7.block (w.heap.size+1) AO).trans hbox))
      refine bodyPost_ret (v:=.tuple #[.agg #[.int .i64 0,.slice none 0 0,.slice none 0 0,.slice none 0 0,.slice none 0 0],.int .i64 fault]) (by simp[results,Tryz.results23,go_sem,u0,u1,u2,u3,u4]) rfl ?_
      rw[Hv.out]
      exact ZA3
theorem aE7 (w:World) (hT:bL w) (P:Option Addr) (b:List UInt8) (pc:Nat) (hb:Bs All w P b) (hpc:b.length≤pc) :
  Calls Tryz.prog 23 #[.slice P b.length pc] w (bR1 w (aM2 b)):=by
 by_cases h4:4000<b.length
 ·have Hv:=zh (show aM2 b=(rq0,1) by unfold aM2;rw[if_pos h4])
  clear hT hb hpc
  go_enter Tryz.func23,Tryz.ntmps23
  go_wp2
  refine bodyPost_ret (v:=.tuple #[.agg #[.int .i64 0,.slice none 0 0,.slice none 0 0,.slice none 0 0,.slice none 0 0],.int .i64 1]) (by simp[results,Tryz.results23,go_sem]) rfl ?_
  rw[Hv.out]
  exact⟨none,0,none,0,none,0,none,0,rfl,SL.nil,SL.nil,SL.nil,SL.nil,BX⟩
 ·by_cases h0:b.length=0
  ·have Hv:=zh (show aM2 b=(rq0,14) by unfold aM2;rw[if_neg h4,if_pos h0])
   have hn:b=[]:=List.eq_nil_of_length_eq_zero h0
   have t0:((b.length:Int)==0)=true:=by rw[h0];rfl
   clear hT hb hpc h0 h4
   go_enter Tryz.func23,Tryz.ntmps23
   go_wp2
   refine bodyPost_ret (v:=.tuple #[.agg #[.int .i64 0,.slice none 0 0,.slice none 0 0,.slice none 0 0,.slice none 0 0],.int .i64 14]) (by simp[results,Tryz.results23,go_sem]) rfl ?_
   rw[Hv.out]
   exact⟨none,0,none,0,none,0,none,0,rfl,SL.nil,SL.nil,SL.nil,SL.nil,BX⟩
  ·obtain⟨k,hk⟩:∃ k,k=(b.getD 0 0).toNat:=⟨_,rfl⟩
   by_cases hkr:1≤k∧k≤8
   ·have he:aM2 b=aK7 k (bO k) (b.drop 1,false):=by unfold aM2;rw[if_neg h4,if_neg h0,← hk,if_neg (by simpa using hkr)]
    rw[he]
    exact dV4 w hT P b pc k hb hpc AO AO hk.symm hkr.1 hkr.2 _ rfl (bH6 (k:=k) hkr.1 hkr.2)
   ·have Hv:=zh (show aM2 b=(rq0,5) by unfold aM2;rw[if_neg h4,if_neg h0,← hk,if_pos hkr])
    obtain⟨g,off,rfl,hc0⟩:=aK3 hb AO
    rw[← hk] at hc0
    have hk256:k<256:=by rw[hk];exact UInt8.toNat_lt _
    have hbn:b≠[]:=fun h=>h0 (by rw[h];rfl)
    have t0:((b.length:Int)==0)=false:=by simp;exact hbn
    have i0:(0:Int)<(b.length:Int):=by omega
    have hgl:=World.block_lt_of_cell? w _ hc0
    clear hT hb hk
    rcases (by omega:k<1∨(1≤k∧8<k)) with h|⟨h,h'⟩
    ·have k1:(k:Int)<1:=by omega
     clear hkr
     go_enter Tryz.func23,Tryz.ntmps23
     go_wp2
     refine bodyPost_ret (v:=.tuple #[.agg #[.int .i64 0,.slice none 0 0,.slice none 0 0,.slice none 0 0,.slice none 0 0],.int .i64 5]) (by simp[results,Tryz.results23,go_sem]) rfl ?_
     rw[Hv.out]
     exact⟨none,0,none,0,none,0,none,0,rfl,SL.nil,SL.nil,SL.nil,SL.nil,BX⟩
    ·have k1:¬ (k:Int)<1:=by omega
     have k2:(8:Int)<(k:Int):=by omega
     clear hkr
     go_enter Tryz.func23,Tryz.ntmps23
     go_wp2
     refine bodyPost_ret (v:=.tuple #[.agg #[.int .i64 0,.slice none 0 0,.slice none 0 0,.slice none 0 0,.slice none 0 0],.int .i64 5]) (by simp[results,Tryz.results23,go_sem]) rfl ?_
     rw[Hv.out]
     exact⟨none,0,none,0,none,0,none,0,rfl,SL.nil,SL.nil,SL.nil,SL.nil,BX⟩
end Go.Proofs.YtablgnacmpcfeaaGreatDoor
