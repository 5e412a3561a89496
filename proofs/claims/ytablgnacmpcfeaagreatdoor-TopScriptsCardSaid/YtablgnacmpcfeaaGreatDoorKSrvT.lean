/- SrvT: Walks: reply at a state in the midst of an act; the server's sync. Walk: the server's prove. The conditions of each are in its words. -/
import Derived.Test.YtablgnacmpcfeaaGreatDoorKSrvP
import Derived.Test.YtablgnacmpcfeaaGreatDoorKTapeK
import Derived.Test.YtablgnacmpcfeaaGreatDoorKSrvR
import Derived.Test.YtablgnacmpcfeaaGreatDoorKFPv
namespace Go.Proofs.YtablgnacmpcfeaaGreatDoor
open Go.RowKit
set_option linter.unusedVariables false
set_option linter.unusedSimpArgs false
set_option maxRecDepth 100000
set_option maxHeartbeats 8000000
theorem say_raw {F : Nat → Prop} {w W w1 : World} {G : Nat} {g : Eng} {fs : List (List Tn)} {r : Rp} {m : Mem} {v : Value} (Hm : aX F w G g fs m) (hlow : ∀ b, F b → b < w.heap.size) (hW : Below w.heap.size w W) (hown : Own 15 RpR (m.fix G) w1 0 57 v (g.replies ++ [r])) (hg : W.grownBy w1 (m.v 3).ownBlock) (hat : v.ownBlock = (m.v 3).ownBlock ∨ v.ownBlock = some W.heap.size) :
    Ending.returned (.tuple #[]) = .returned (.tuple #[]) ∧ (∃ v', aX F (w1.setCell ⟨G, 23, none⟩ v) G (g.say r) fs (m.row 3 v' 23)) ∧ aC F w (w1.setCell ⟨G, 23, none⟩ v) ∧ Below 0 w (w1.setCell ⟨G, 23, none⟩ v) := by
  have hmW : aX F W G g fs m := Hm.below hW fun b hb => .inl hb
  have hr := hmW.row3 (F' := F) (w1 := w1) (v := v) (l := g.replies ++ [r]) (aC.grown (aC.refl _ _) hg fun b hb hs => hs hb)
    (fun b hb => by rcases hat with h | h
                    · rw [h] at hb; exact .inl hb
                    · rw [h] at hb; cases hb; exact .inr zn)
    (by rcases hat with h | h
        · rw [h]; exact hmW.rows.apart.own 3 AO
        · rw [h]; intro e; cases e; have := hmW.lt; omega)
    (bB6 rpR_stays hown) (fun b hb => .inl ⟨hb, Nat.lt_of_lt_of_le (hlow b hb) hW.size⟩)
  obtain ⟨h1, h2⟩ := aP3 (G := G) (k := 23) (v := v) hlow hW hg (fun b hF => (Hm.fixF b hF).2 3 AO) (fun b hF => (Hm.fixF b hF).1)
  exact ⟨rfl, ⟨v, hr⟩, h1, h2⟩
theorem cW3 (F:Nat→Prop) (w:World) (G:Nat) (g:Eng) (fs:List (List Tn)) (m:Mem) (r:Rp) (cs:List Value) (hm:aX F w G g fs m) (hlow:∀ b,F b→b<w.heap.size) (hr:RpR F w cs r) (hlen:g.replies.length+1≤200000) :
  Calls Tryz.prog 119 #[.pointer (some ⟨G,0,none⟩),.agg cs.toArray] w (fun e w'=>e=.returned (.tuple #[])∧(∃ v,aX F w' G (g.say r) fs (m.row 3 v 23))∧aC F w w'∧Below 0 w w'):=by
 obtain⟨i0,z0,hi0,hz0,hz1,hz2,hz3⟩:=rp_parts
 have Hr:=zh hr
 have Hm:=zh hm
 have c23:w.cell? ⟨G,23,none⟩=some (m.v 3):=(hm.cell 23).trans hm.cells.rep
 have hG:=hm.lt
 obtain⟨V,v,P,p,R,q,A,na,K,a,X,b,A1,nb,K1,a1,X1,b1,hcs,_⟩:=hr
 subst hcs
 clear hm
 go_enter Tryz.func119,Tryz.ntmps119
 go_wp2_with fail
 go_region_law (refine aW5 rpR_stays (S:=m.fix G) _ rfl (.tmp 8) (.tmp 10) _ rfl 0 57 i0 z0 15 264 Tryz.underlying27 hi0 hz0 hz1 hz2 hz3 ZD9 (m.v 3) g.replies ?hs ?hown (some ⟨w.heap.size+1,0,none⟩) 1 [.int .i64 r.session,.int .i64 r.code,.int .i64 r.turn,.bool r.found,.slice V r.value.length v,.slice P r.pairs.length p,.slice R r.root.length q,.bool r.outer.empty,.slice A r.outer.steps.length na,.slice K r.outer.pair.1.length a,.slice X r.outer.pair.2.length b,.bool r.inner.empty,.slice A1 r.inner.steps.length nb,.slice K1 r.inner.pair.1.length a1,.slice X1 r.inner.pair.2.length b1] ?hx rfl ?hsrc ZE8 ?hm ?hby (Nat.zero_le _) r ?hd ?_;(case hs=>(simp[Act.eval,Act.put]));(case hx=>(simp[Act.eval,Act.put]));(case hsrc=>exact aE6 _ _ [.int .i64 r.session,.int .i64 r.code,.int .i64 r.turn,.bool r.found,.slice V r.value.length v,.slice P r.pairs.length p,.slice R r.root.length q,.bool r.outer.empty,.slice A r.outer.steps.length na,.slice K r.outer.pair.1.length a,.slice X r.outer.pair.2.length b,.bool r.inner.empty,.slice A1 r.inner.steps.length nb,.slice K1 r.inner.pair.1.length a1,.slice X1 r.inner.pair.2.length b1] _ ZH2);(case hown=>(refine Own.below rpR_stays Hm.out.rows.rep ?_;exact BE));(case hm=>(simp only[maxLen];omega));(case hby=>omega);(case hd=>(refine rpR_stays.same _ w _ _ _ (aC.of_below ?_) (rpR_stays.less _ _ _ _ _ (fun b _ hF=>⟨Hm.out.fixF b hF,(Hm.out.fixF b hF).2 3 AO⟩) Hr.out);exact BE));intro v' w1 hown1 hb1 hg1 hat1;obtain⟨VA,vc,rfl⟩:=aP6 hown1;have HmW:=zh (Hm.out.below (F':=F) (w':=((w.alloc (.cells #[.int .i64 r.session,.int .i64 r.code,.int .i64 r.turn,.bool r.found,.slice V r.value.length v,.slice P r.pairs.length p,.slice R r.root.length q,.bool r.outer.empty,.slice A r.outer.steps.length na,.slice K r.outer.pair.1.length a,.slice X r.outer.pair.2.length b,.bool r.inner.empty,.slice A1 r.inner.steps.length nb,.slice K1 r.inner.pair.1.length a1,.slice X1 r.inner.pair.2.length b1] 57)).alloc (.cells #[.int .i64 r.session,.int .i64 r.code,.int .i64 r.turn,.bool r.found,.slice V r.value.length v,.slice P r.pairs.length p,.slice R r.root.length q,.bool r.outer.empty,.slice A r.outer.steps.length na,.slice K r.outer.pair.1.length a,.slice X r.outer.pair.2.length b,.bool r.inner.empty,.slice A1 r.inner.steps.length nb,.slice K1 r.inner.pair.1.length a1,.slice X1 r.inner.pair.2.length b1] 57))) BE (fun b hb=>.inl hb));have k0:=(World.cell?_of_block (a:=⟨G,23,none⟩) (hg1.block G HmW.out.lt (fun e=>HmW.out.rows.apart.own 3 AO e.symm))).trans ((HmW.out.cell 23).trans HmW.out.cells.rep);have f0:=(World.frozen?_of_block (a:=⟨G,23,none⟩) (hg1.block G HmW.out.lt (fun e=>HmW.out.rows.apart.own 3 AO e.symm))).trans (HmW.out.frozen 23);have hG1:G<w1.heap.size:=Nat.lt_of_lt_of_le HmW.out.lt hg1.size)
 all_goals
  go_wp2
  refine bodyPost_end (v:=.tuple #[]) (by simp[results,Tryz.results119,go_sem]) rfl ?_
  rw[show (g.replies++[r]).length=g.replies.length+1 by simp] at hown1 hat1
  refine say_raw Hm.out hlow ?_ hown1 hg1 hat1
  exact BE
theorem sync_one (g:Eng) (s:Nat):aC1 g s=({ g.put s ⟨(g.at s).txn,false⟩ with synced:=g.synced+1 }:Eng).say { rp0 with session:=(s:Int),code:=0,turn:=(g.synced:Int)+1 }:=by
 unfold aC1 bC5
 rw[Int.natCast_add]
 rfl
theorem aX.wait_at {F:Nat→Prop} {w:World} {G:Nat} {g:Eng} {fs:List (List Tn)} {m:Mem} (h:aX F w G g fs m) {A:Option Addr} {c k:Nat} (hv:m.v 2=.slice A g.waiting.length c) (hk:k<g.waiting.length):∃ b,A=some ⟨b,0,none⟩∧b<w.heap.size∧w.cell? ⟨b,k,none⟩=some (.int .i64 (g.waiting[k]:Int)):=by
 obtain⟨xs,h1,h2⟩:=h.rows.wai
 have h3:=h2 k hk
 rw[Nat.mul_one] at h3
 rcases h1.2 with ⟨_,h0⟩|⟨gf,cap,cur,hv',_,hh,_⟩
 ·omega
 ·rw[hv] at hv'
  have hA:A=some ⟨gf,0,none⟩:=by simp only[Value.slice.injEq] at hv';exact hv'.1
  have hxl:=h1.1
  rw[Nat.mul_one] at hxl
  refine⟨gf,hA,(Array.getElem?_eq_some_iff.1 hh).1,?_⟩
  have hc:=h1.cells (g:=gf) (by rw[hv,hA];rfl) k xs[k] (List.getElem?_eq_getElem AO)
  rw[bC,Nat.zero_add] at hc
  rw[hc]
  have h5:((xs.drop k).take 1)[0]?=some (.int .i64 (g.waiting[k]:Int)):=by rw[h3];rfl
  rw[List.getElem?_take_of_lt AO,List.getElem?_drop,Nat.add_zero,List.getElem?_eq_getElem AO] at h5
  exact h5
theorem cO7 (F:Nat→Prop) (w:World) (G:Nat) (g:Eng) (n:Nat) (h:Srv F w G g n) (hn:n<100000) :
  Calls Tryz.prog 73 #[.pointer (some ⟨G,0,none⟩)] w (aO F w G (aV2 g) n (.tuple #[])):=by
 obtain⟨m,hm⟩:=h.eng
 have c0:w.cell? ⟨G,0,none⟩=some (.bool g.up):=(hm.cell 0).trans hm.cells.up
 have hG:=hm.lt
 have H:=zh h
 have Hm:=zh hm
 cases hup:g.up with
 | false =>
  rw[hup] at c0
  have Hv:=zh (show aV2 g=g by unfold aV2;rw[if_pos hup])
  clear h hm hup
  go_enter Tryz.func73,Tryz.ntmps73
  go_wp2
  refine bodyPost_ret (v:=.tuple #[]) (by simp[results,Tryz.results73,go_sem]) rfl ?_
  rw[Hv.out]
  exact⟨rfl,H.out,aC.refl _ _,Below.refl _ _⟩
 | true =>
  rw[hup] at c0
  have c1:=(hm.cell 1).trans hm.cells.data
  have c2:=(hm.cell 2).trans hm.cells.safe
  have hmay:=h.inv.holds.may
  obtain⟨VA,vc,hv2⟩:=aP6 hm.rows.wai
  have Hv2:=zh hv2
  have Hv:=zh (show aV2 g={ g.waiting.foldl aC1 { g with tape:=(g.tape.1,(g.tape.1.length:Int)) } with waiting:=[] } by unfold aV2;rw[if_neg (by simp[hup]),if_pos hmay])
  have hts:=cF3 w m.A g.tape m.c hm.rows.dat.bz
  rw[if_pos hmay,if_pos hmay] at hts
  have Hts:=zh hts
  clear h hm hup hmay hv2 hts
  go_enter Tryz.func73,Tryz.ntmps73
  go_wp2_with (go_at_call 122;(with_reducible refine Hts.out.mono ?_);rintro e1 w1 ⟨A1,k1,rfl,hk1,hs1,hb1⟩;have HmW:=zh (Hm.out.below (F':=F) hb1 fun b hb=>.inl hb);have hG1:=HmW.out.lt;have d1:=(HmW.out.cell 1).trans HmW.out.cells.data;have d2:=(HmW.out.cell 2).trans HmW.out.cells.safe;have f1:=HmW.out.frozen 1;have f2:=HmW.out.frozen 2;have d22:w1.cell? ⟨G,22,none⟩=some (.slice VA g.waiting.length vc):=(HmW.out.cell 22).trans (HmW.out.cells.wai.trans (congrArg some Hv2.out)))
  have hmS:=HmW.out.setTape A1 k1 (g.tape.1,(g.tape.1.length:Int)) (hs1.bless fun b _ h=>Hm.out.fresh h) hk1
  have hsame1:aC F w ((w1.setCell ⟨G,1,none⟩ (.slice A1 g.tape.1.length k1)).setCell ⟨G,2,none⟩ (.int .i64 (g.tape.1.length:Int))):=((aC.of_below hb1).setCell (p:=⟨G,1,none⟩) (fun hF=>(Hm.out.fixF G hF).1 rfl) _).setCell (p:=⟨G,2,none⟩) (fun hF=>(Hm.out.fixF G hF).1 rfl) _
  have hbel1:Below 0 w ((w1.setCell ⟨G,1,none⟩ (.slice A1 g.tape.1.length k1)).setCell ⟨G,2,none⟩ (.int .i64 (g.tape.1.length:Int))):=((aU0 hb1).setCell (p:=⟨G,1,none⟩) (Nat.zero_le _) _).setCell (p:=⟨G,2,none⟩) (Nat.zero_le _) _
  obtain⟨ms,hms,hmv⟩:∃ ms,aX F ((w1.setCell ⟨G,1,none⟩ (.slice A1 g.tape.1.length k1)).setCell ⟨G,2,none⟩ (.int .i64 (g.tape.1.length:Int))) G { g with tape:=(g.tape.1,(g.tape.1.length:Int)) } g.forests ms∧ms.v=m.v:=⟨_,hmS,rfl⟩
  have HmS:=zh hms
  clear hms
  have Hs1:=zh hsame1
  have Hb1:=zh hbel1
  obtain⟨g1,hg1⟩:∃ g1:Eng,g1={ g with tape:=(g.tape.1,(g.tape.1.length:Int)) }:=⟨_,rfl⟩
  have Hg1:=zh hg1
  have Hfold:=zh (show ∀ k,(((g.waiting.take k).foldl aC1 g1).sess.length=8∧((g.waiting.take k).foldl aC1 g1).synced=g.synced+(g.waiting.take k).length∧((g.waiting.take k).foldl aC1 g1).waiting=g.waiting∧((g.waiting.take k).foldl aC1 g1).replies.length=g.replies.length+(g.waiting.take k).length) from fun k=>by
   obtain⟨b1,_,_,b4,b5,b6,_⟩:=sync_fold (g.waiting.take k) g1 (by rw[hg1];exact H.out.inv.sess) (fun s hs=>H.out.inv.who s (List.mem_of_mem_take hs))
   rw[hg1] at b4 b5 b6
   rw[hg1]
   rw[hg1] at b1
   exact⟨b1,b4,b5,b6⟩)
  clear hmS hsame1 hbel1 hb1 hs1 d1 d2 f1 f2 d22 hG1 c0 c1 c2 hg1
  have hwl3:g.waiting.length≤300:=by
   have:=H.out.inv.wait
   have:=H.out.inv.many
   omega
  go_loopw [25] (fun i wr=>∃ (k:Nat) (mr:Mem),k≤g.waiting.length∧i=.int .i64 k∧aX F wr G ((g.waiting.take k).foldl aC1 g1) g.forests mr∧mr.v 2=.slice VA g.waiting.length vc∧aC F w wr∧Below 0 w wr) (fun i _=>g.waiting.length - (intOf i).toNat)
  case atStart=>exact⟨0,ms,AO,rfl,by rw[List.take_zero,List.foldl_nil,Hg1.out];exact HmS.out,by rw[hmv];exact Hv2.out,Hs1.out,Hb1.out⟩
  case round =>
   obtain⟨k,mr,hk,rfl,hmr,hv2r,hsr,hbr⟩:=hrel
   have Hmr:=zh hmr
   have Hv2r:=zh hv2r
   have Hsr:=zh hsr
   have Hbr:=zh hbr
   obtain⟨q1,q2,q3,q4⟩:=Hfold.out k
   have hGr:=hmr.lt
   clear hmr hv2r hsr hbr
   by_cases hlt:k<g.waiting.length
   ·obtain⟨wb,rfl,hwl,hwc⟩:=Hmr.out.wait_at (A:=VA) (c:=vc) (k:=k) (by rw[q3];exact Hv2r.out) (by rw[q3];exact hlt)
    have hwk:((g.waiting.take k).foldl aC1 g1).waiting[k]'(by rw[q3];exact hlt)=g.waiting[k]:=by simp only[q3]
    rw[hwk] at hwc
    have hs8:g.waiting[k]<8:=H.out.inv.who _ (List.getElem_mem hlt)
    have Hnx:=zh (show (g.waiting.take (k+1)).foldl aC1 g1=aC1 ((g.waiting.take k).foldl aC1 g1) g.waiting[k] by rw[aC8 _ k hlt,List.foldl_append];rfl)
    have hrl:((g.waiting.take k).foldl aC1 g1).replies.length+1≤200000:=by
     have:=H.out.inv.told
     rw[q4,List.length_take];omega
    have hsy:((g.waiting.take k).foldl aC1 g1).synced≤300:=by
     have:=H.out.inv.many
     have:=H.out.inv.wait
     rw[q2,List.length_take];omega
    generalize g.waiting[k]=s at *
    clear q2 q3 q4 hwk
    generalize (g.waiting.take k).foldl aC1 g1=g2 at *
    have c5:=(Hmr.out.cell 5).trans Hmr.out.cells.syn
    have f5:=Hmr.out.frozen 5
    have c7:=(Hmr.out.cell (6+s*2+1)).trans (Hmr.out.cells.wt s hs8)
    have f7:=Hmr.out.frozen (6+s*2+1)
    have n5:¬ (6+s*2+1=5):=by omega
    have n5':¬ (5=6+s*2+1):=by omega
    have hi0:(0:Int)≤(k:Int):=by omega
    have hi1:(k:Int)<(g.waiting.length:Int):=by omega
    have hs0:(0:Int)≤(s:Int):=by omega
    have hs1:(s:Int)<8:=by omega
    obtain⟨m3,hm3,hv3⟩:∃ m3,aX F ((wr.setCell ⟨G,5,none⟩ (.int .i64 ((g2.synced:Int)+1))).setCell ⟨G,6+s*2+1,none⟩ (.bool false)) G { g2.put s ⟨(g2.at s).txn,false⟩ with synced:=g2.synced+1 } g.forests m3∧m3.v=mr.v:=by
     rw[show (g2.synced:Int)+1=((g2.synced+1:Nat):Int) by omega]
     exact⟨_,(Hmr.out.setSynced (g2.synced+1)).setWaits q1 hs8 false,rfl⟩
    obtain⟨g3,hg3⟩:∃ g3:Eng,g3={ g2.put s ⟨(g2.at s).txn,false⟩ with synced:=g2.synced+1 }:=⟨_,rfl⟩
    rw[← hg3] at hm3
    have hrl3:g3.replies.length+1≤200000:=by rw[hg3];exact hrl
    have Hone:=zh (show aC1 g2 s=g3.say { rp0 with session:=(s:Int),code:=0,turn:=(g2.synced:Int)+1 } by rw[hg3];exact sync_one g2 s)
    have HmT:=zh hm3
    clear hg3
    have Hv3:=zh hv3
    have hlow3:∀ b,F b→b<((wr.setCell ⟨G,5,none⟩ (.int .i64 ((g2.synced:Int)+1))).setCell ⟨G,6+s*2+1,none⟩ (.bool false)).heap.size:=fun b hb=>by
     have h1:=H.out.low b hb
     have h2:=Hsr.out.size
     simp[World.setCell];omega
    have Hlow3:=zh hlow3
    clear hm3 hv3 hlow3
    go_wp2_with (go_at_call 119;(with_reducible refine (cW3 F _ G g3 g.forests m3 { rp0 with session:=(s:Int),code:=0,turn:=(g2.synced:Int)+1 } _ HmT.out Hlow3.out (bL8 (s:Int) 0 ((g2.synced:Int)+1)) hrl3).mono ?_);rintro e4 w4 ⟨rfl,⟨v4,hm4⟩,hs4,hb4⟩)
    have hFG:¬ F G:=fun hF=>(Hm.out.fixF G hF).1 rfl
    exact⟨⟨k+1,m3.row 3 v4 23,AO,by simp,by rw[Hnx.out,Hone.out];exact hm4,by show (if 2=3 then v4 else m3.v 2)=_;rw[if_neg ZD9,Hv3.out];exact Hv2r.out,((Hsr.out.setCell (p:=⟨G,5,none⟩) hFG _).setCell (p:=⟨G,6+s*2+1,none⟩) hFG _).trans hs4,((Hbr.out.setCell (p:=⟨G,5,none⟩) (Nat.zero_le _) _).setCell (p:=⟨G,6+s*2+1,none⟩) (Nat.zero_le _) _).trans hb4⟩,by simp[intOf];omega⟩
   ·obtain rfl:k=g.waiting.length:=by omega
    have c22:=(Hmr.out.cell 22).trans Hmr.out.cells.wai
    have f22:=Hmr.out.frozen 22
    have Hend:=zh (Hmr.out.row2 (F':=F) (w1:=wr) (v:=.slice none 0 0) (l:=[]) (aC.refl _ _) (fun b hb=>by cases hb) (fun e=>by cases e) (Own.nil _ _ _) (fun b hb=>.inl ⟨hb,Nat.lt_of_lt_of_le (H.out.low b hb) Hsr.out.size⟩))
    clear q1 q2 q3 q4
    go_wp2
    refine bodyPost_end (v:=.tuple #[]) (by simp[results,Tryz.results73,go_sem]) rfl ?_
    have he:aV2 g={ (g.waiting.take g.waiting.length).foldl aC1 g1 with waiting:=[] }:=by rw[Hv.out,List.take_length,Hg1.out]
    have hfo:(aV2 g).forests=g.forests:=by
     rw[Hv.out]
     unfold Eng.forests
     show List.map (aS (List.foldl aC1 _ g.waiting).commits) (List.range ((List.foldl aC1 _ g.waiting).commits.length+1))=_
     rw[(sync_fold g.waiting { g with tape:=(g.tape.1,(g.tape.1.length:Int)) } H.out.inv.sess H.out.inv.who).2.2.1]
    have hFG:¬ F G:=fun hF=>(Hm.out.fixF G hF).1 rfl
    have hs9:=Hsr.out.setCell (p:=⟨G,22,none⟩) hFG (.slice none 0 0)
    have hE:EngR F (wr.setCell ⟨G,22,none⟩ (.slice none 0 0)) G (aV2 g):=by
     unfold EngR
     rw[hfo,he]
     exact⟨_,Hend.out⟩
    exact⟨rfl,⟨hE,H.out.env.same hs9,H.out.inv.sync,fun b hb=>Nat.lt_of_lt_of_le (H.out.low b hb) hs9.size⟩,hs9,Hbr.out.setCell (p:=⟨G,22,none⟩) (Nat.zero_le _) _⟩
theorem cI2 (F:Nat→Prop) (w:World) (G:Nat) (g:Eng) (n:Nat) (s:Nat) (r:Rq) (cs:List Value) (h:Srv F w G g n) (hr:RqR F w cs r) (hn:n<100000) :
  Calls Tryz.prog 118 #[.pointer (some ⟨G,0,none⟩),.int .i64 (s:Int),.agg cs.toArray] w (aO F w G (g.say (bS1 g s r)) (n+1) (.tuple #[])):=by
 obtain⟨m,hm⟩:=h.eng
 obtain⟨A,a,B,b,C,c,D,d,rfl,r1,r2,r3,r4,l1,l2,l3,l4⟩:=hr
 obtain⟨gf,fcap,FA,fc,hv1,hcf,hlf,hTs,hgf⟩:=hm.forest_at (k:=g.synced) h.inv.holds.few
 have hc4:w.cell? ⟨G,4,none⟩=some (.slice (some ⟨gf,0,none⟩) (g.commits.length+1) fcap):=by rw[hm.cell,hm.cells.fo,hv1]
 have hc5:w.cell? ⟨G,5,none⟩=some (.int .i64 (g.synced:Int)):=(hm.cell 5).trans hm.cells.syn
 have hG:=hm.lt
 have hi0:(0:Int)≤(g.synced:Int):=by omega
 have hi1:(g.synced:Int)<((g.commits.length+1:Nat):Int):=by have:=h.inv.holds.few;omega
 obtain⟨l,hl⟩:∃ l,l=aS g.commits g.synced:=⟨_,rfl⟩
 rw[← hl] at hcf hlf hTs
 obtain⟨rt,re,hrt⟩:∃ rt re,aJ6 l=(rt,re):=⟨_,_,rfl⟩
 obtain⟨po,pi,pe,hpf⟩:∃ po pi pe,fpS l r.name r.key=((po,pi),pe):=⟨_,_,_,rfl⟩
 obtain⟨fb,fv,fe,hfg⟩:∃ fb fv fe,aA7 l r.name r.key=((fb,fv),fe):=⟨_,_,_,rfl⟩
 have Hv:=zh (show bS1 g s r={ session:=(s:Int),code:=0,turn:=(g.synced:Int),found:=fb,value:=fv,pairs:=[],root:=rt,outer:=po,inner:=pi } by unfold bS1 Eng.now;rw[← hl,hrt,hpf,hfg])
 have H:=zh h
 have Hm:=zh hm
 have R1:=zh r1.bz
 have R2:=zh r2.bz
 have HTs:=zh hTs
 have Hrt:=zh hrt
 have Hpf:=zh hpf
 have Hfg:=zh hfg
 have Hc5:=zh hc5
 clear h hm r1 r2 r3 r4 hTs hv1 hrt hpf hfg hl
 go_enter Tryz.func118,Tryz.ntmps118
 go_wp2
 go_quiet (fail)
 go_wp2_with (first
  | (go_at_call 172;(with_reducible refine (bU1 _ ?hT FA l fc ?ha).mono ?_);(case hT=>exact H.out.env.tabs.below (below_drewN ((Below.refl _ _).alloc zn _) _));(case ha=>exact HTs.out.below tenR_stays (below_drewN ((Below.refl _ _).alloc zn _) _));rw[Hrt.out];rintro e3 w3 ⟨B3,d3,rfl,s3,hb3⟩;have hw3:Below w.heap.size w w3:=Below.next (below_drewN ((Below.refl _ _).alloc zn _) _) hb3 AU;have yb:=(hb3.block w.heap.size AU).trans (aK w #[.int .i64 r.kind,.slice A r.name.length a,.slice B r.key.length b,.slice C r.last.length c,.slice D r.value.length d] 48);have hr3:=(Array.getElem?_eq_some_iff.1 yb).1;have y1:=aA yb 1;have y2:=aA yb 2;simp only[List.getElem?_cons_zero,List.getElem?_cons_succ] at y1 y2;have YB:=zh yb;have S3:=zh (show Bs (aB w.heap.size) w3 B3 rt from s3.blo ZH2);clear yb s3)
  | (go_at_call 173;(with_reducible refine (bR9 _ ?hT FA l fc A r.name a B r.key b ?ha ?hn ?hk).mono ?_);(case hT=>exact H.out.env.tabs.below hw3);(case ha=>exact HTs.out.below tenR_stays hw3);(case hn=>exact R1.out.bbelow hw3);(case hk=>exact R2.out.bbelow hw3);rw[Hpf.out];rintro e4 w4 ⟨A4,n4,K4,a4,V4,b4,A5,n5,K5,a5,V5,b5,rfl,⟨p1,p2,p3⟩,⟨q1,q2,q3⟩,hb4⟩;have hw4:Below w.heap.size w w4:=hw3.next hb4 hw3.size;have yb:=(hb4.block w.heap.size hr3).trans YB.out;have hr4:=(Array.getElem?_eq_some_iff.1 yb).1;have y1:=aA yb 1;have y2:=aA yb 2;simp only[List.getElem?_cons_zero,List.getElem?_cons_succ] at y1 y2;have hz3:=hw3.size;have P1:=zh (show Sts (aB w.heap.size) w4 A4 po.steps from p1.lo stR_stays hz3);have P2:=zh (show Bs (aB w.heap.size) w4 K4 po.pair.1 from p2.blo hz3);have P3:=zh (show Bs (aB w.heap.size) w4 V4 po.pair.2 from p3.blo hz3);have Q1:=zh (show Sts (aB w.heap.size) w4 A5 pi.steps from q1.lo stR_stays hz3);have Q2:=zh (show Bs (aB w.heap.size) w4 K5 pi.pair.1 from q2.blo hz3);have Q3:=zh (show Bs (aB w.heap.size) w4 V5 pi.pair.2 from q3.blo hz3);have S4:=zh (S3.out.bbelow hb4);clear yb p1 p2 p3 q1 q2 q3)
  | (go_at_call 24;(with_reducible refine (aW2 _ FA l fc A r.name a B r.key b ?ha ?hn ?hk).mono ?_);(case ha=>exact HTs.out.below tenR_stays ((hw4.alloc hw4.size _).alloc (Nat.le_trans hw4.size ZH2) _));(case hn=>exact R1.out.bbelow ((hw4.alloc hw4.size _).alloc (Nat.le_trans hw4.size ZH2) _));(case hk=>exact R2.out.bbelow ((hw4.alloc hw4.size _).alloc (Nat.le_trans hw4.size ZH2) _));rw[Hfg.out];rintro e5 w5 ⟨A6,n6,rfl,s6,hb5⟩))
 have z4:w.heap.size≤w4.heap.size:=hw4.size
 obtain⟨t1,t2,t3,t4⟩:=aM6 w4 (.cells #[.bool po.empty,.slice A4 po.steps.length n4,.slice K4 po.pair.1.length a4,.slice V4 po.pair.2.length b4] 55) (.cells #[.bool pi.empty,.slice A5 pi.steps.length n5,.slice K5 pi.pair.1.length a5,.slice V5 pi.pair.2.length b5] 55)
 have h45:Below w4.heap.size w4 w5:=t4.next hb5 t4.size
 have z5:w4.heap.size+2≤w5.heap.size:=by have:=hb5.size;rw[t3] at this;exact this
 have ob:=(hb5.block w4.heap.size (by rw[t3];omega)).trans t1
 have ib:=(hb5.block (w4.heap.size+1) (by rw[t3];omega)).trans t2
 have ob6:=(aB9 w5 (.cells #[.bool fb,.slice A6 fv.length n6] 81) AO).trans ob
 have ib6:=(aB9 w5 (.cells #[.bool fb,.slice A6 fv.length n6] 81) AO).trans ib
 have fb6:=heap_alloc_new w5 (.cells #[.bool fb,.slice A6 fv.length n6] 81)
 have h46:Below w4.heap.size w4 (w5.alloc (.cells #[.bool fb,.slice A6 fv.length n6] 81)):=h45.alloc h45.size _
 have hwX:Below w.heap.size w (w5.alloc (.cells #[.bool fb,.slice A6 fv.length n6] 81)):=hw4.next h46 hw4.size
 have sX:(w5.alloc (.cells #[.bool fb,.slice A6 fv.length n6] 81)).heap.size=w5.heap.size+1:=by simp
 have p5:=(hwX.cell (p:=⟨G,5,none⟩) hG).trans Hc5.out
 have s6':=s6.bbelow ((Below.refl w5.heap.size w5).alloc zn (.cells #[.bool fb,.slice A6 fv.length n6] 81))
 have hW4:w4.heap.size≤((w4.alloc (.cells #[.bool po.empty,.slice A4 po.steps.length n4,.slice K4 po.pair.1.length a4,.slice V4 po.pair.2.length b4] 55)).alloc (.cells #[.bool pi.empty,.slice A5 pi.steps.length n5,.slice K5 pi.pair.1.length a5,.slice V5 pi.pair.2.length b5] 55)).heap.size:=by rw[t3];omega
 have G6:=zh (show Bs (aB w.heap.size) (w5.alloc (.cells #[.bool fb,.slice A6 fv.length n6] 81)) A6 fv from s6'.blo (Nat.le_trans z4 hW4))
 have HwX:=zh hwX
 have S5:=zh (S4.out.bbelow h46)
 have P15:=zh (P1.out.below stR_stays h46)
 have P25:=zh (P2.out.bbelow h46)
 have P35:=zh (P3.out.bbelow h46)
 have Q15:=zh (Q1.out.below stR_stays h46)
 have Q25:=zh (Q2.out.bbelow h46)
 have Q35:=zh (Q3.out.bbelow h46)
 clear t1 t2 t4 hb5 ob ib h46 hwX s6 s6' h45 t3 hW4 hb4 hb3 y1 y2
 obtain⟨wX,hX⟩:∃ wX,wX=w5.alloc (.cells #[.bool fb,.slice A6 fv.length n6] 81):=⟨_,rfl⟩
 rw[← hX] at ob6 ib6 fb6 sX p5 G6 HwX S5 P15 P25 P35 Q15 Q25 Q35 ⊢
 clear hX
 have lo:w4.heap.size<wX.heap.size:=by omega
 have li:w4.heap.size+1<wX.heap.size:=by omega
 have lf:w5.heap.size<wX.heap.size:=by omega
 have lG:G<wX.heap.size:=Nat.lt_of_lt_of_le hG HwX.out.size
 have zo:w.heap.size≤w4.heap.size+1:=by omega
 have zf:w.heap.size≤w5.heap.size:=by omega
 have f0:=aA fb6 0
 have f1:=aA fb6 1
 simp only[List.getElem?_cons_zero,List.getElem?_cons_succ] at f0 f1
 have o0:=aA ob6 0
 have o1:=aA ob6 1
 have o2:=aA ob6 2
 have o3:=aA ob6 3
 simp only[List.getElem?_cons_zero,List.getElem?_cons_succ] at o0 o1 o2 o3
 have j0:=aA ib6 0
 have j1:=aA ib6 1
 have j2:=aA ib6 2
 have j3:=aA ib6 3
 simp only[List.getElem?_cons_zero,List.getElem?_cons_succ] at j0 j1 j2 j3
 have Lo:=zh lo
 have Li:=zh li
 have Lf:=zh lf
 clear sX z5
 go_region_held3 (fun w'=>w'.cell? ⟨G,5,none⟩=some (.int .i64 (g.synced:Int))∧w'.cell? ⟨w5.heap.size,0,none⟩=some (.bool fb)∧w'.cell? ⟨w5.heap.size,1,none⟩=some (.slice A6 fv.length n6)∧w'.cell? ⟨w4.heap.size,0,none⟩=some (.bool po.empty)∧w'.cell? ⟨w4.heap.size,1,none⟩=some (.slice A4 po.steps.length n4)∧w'.cell? ⟨w4.heap.size,2,none⟩=some (.slice K4 po.pair.1.length a4)∧w'.cell? ⟨w4.heap.size,3,none⟩=some (.slice V4 po.pair.2.length b4)∧w'.cell? ⟨w4.heap.size+1,0,none⟩=some (.bool pi.empty)∧w'.cell? ⟨w4.heap.size+1,1,none⟩=some (.slice A5 pi.steps.length n5)∧w'.cell? ⟨w4.heap.size+1,2,none⟩=some (.slice K5 pi.pair.1.length a5)∧w'.cell? ⟨w4.heap.size+1,3,none⟩=some (.slice V5 pi.pair.2.length b5))
  (first
   | go_keep
   | exact⟨kk0,kk1,kk2,kk3,kk4,kk5,kk6,kk7,kk8,kk9,kk10⟩)
  ((go_at_call 119;(with_reducible refine (aT1 (Fx F w wX) _ G g n { session:=(s:Int),code:=0,turn:=(g.synced:Int),found:=fb,value:=fv,pairs:=[],root:=rt,outer:=po,inner:=pi } _ (H.out.below HwX.out).drew ?hr AO).mono ?_);(case hr=>exact⟨A6,n6,none,0,B3,d3,A4,n4,K4,a4,V4,b4,A5,n5,K5,a5,V5,b5,rfl,((G6.out.bless (S':=Fx F w wX) fun b hb h=>.inr ⟨h,hb⟩).bsame ((aC.refl _ _).drew)),SL.nil,((S5.out.bless (S':=Fx F w wX) fun b hb h=>.inr ⟨h,hb⟩).bsame ((aC.refl _ _).drew)),⟨((P15.out.less stR_stays (S':=Fx F w wX) fun b hb h=>.inr ⟨h,hb⟩).same stR_stays ((aC.refl _ _).drew)),((P25.out.bless (S':=Fx F w wX) fun b hb h=>.inr ⟨h,hb⟩).bsame ((aC.refl _ _).drew)),((P35.out.bless (S':=Fx F w wX) fun b hb h=>.inr ⟨h,hb⟩).bsame ((aC.refl _ _).drew))⟩,((Q15.out.less stR_stays (S':=Fx F w wX) fun b hb h=>.inr ⟨h,hb⟩).same stR_stays ((aC.refl _ _).drew)),((Q25.out.bless (S':=Fx F w wX) fun b hb h=>.inr ⟨h,hb⟩).bsame ((aC.refl _ _).drew)),((Q35.out.bless (S':=Fx F w wX) fun b hb h=>.inr ⟨h,hb⟩).bsame ((aC.refl _ _).drew))⟩);rintro e7 w7 ⟨hp5,hc6⟩;obtain⟨rfl,hp5⟩:=hp5;have kk0:=(hc6 5 AO).trans p5;have kk1:=(hp5.2.1.cell (p:=⟨w5.heap.size,0,none⟩) (.inr ⟨zf,Lf.out⟩) Lf.out).trans f0;have kk2:=(hp5.2.1.cell (p:=⟨w5.heap.size,1,none⟩) (.inr ⟨zf,Lf.out⟩) Lf.out).trans f1;have kk3:=(hp5.2.1.cell (p:=⟨w4.heap.size,0,none⟩) (.inr ⟨z4,Lo.out⟩) Lo.out).trans o0;have kk4:=(hp5.2.1.cell (p:=⟨w4.heap.size,1,none⟩) (.inr ⟨z4,Lo.out⟩) Lo.out).trans o1;have kk5:=(hp5.2.1.cell (p:=⟨w4.heap.size,2,none⟩) (.inr ⟨z4,Lo.out⟩) Lo.out).trans o2;have kk6:=(hp5.2.1.cell (p:=⟨w4.heap.size,3,none⟩) (.inr ⟨z4,Lo.out⟩) Lo.out).trans o3;have kk7:=(hp5.2.1.cell (p:=⟨w4.heap.size+1,0,none⟩) (.inr ⟨zo,Li.out⟩) Li.out).trans j0;have kk8:=(hp5.2.1.cell (p:=⟨w4.heap.size+1,1,none⟩) (.inr ⟨zo,Li.out⟩) Li.out).trans j1;have kk9:=(hp5.2.1.cell (p:=⟨w4.heap.size+1,2,none⟩) (.inr ⟨zo,Li.out⟩) Li.out).trans j2;have kk10:=(hp5.2.1.cell (p:=⟨w4.heap.size+1,3,none⟩) (.inr ⟨zo,Li.out⟩) Li.out).trans j3))
 all_goals go_wp2
 refine bodyPost_end (v:=.tuple #[]) (by simp[results,Tryz.results118,go_sem]) rfl ?_
 rw[Hv.out]
 exact aO.from H.out HwX.out (aO.drew_from ⟨rfl,hp5⟩)
end Go.Proofs.YtablgnacmpcfeaaGreatDoor
