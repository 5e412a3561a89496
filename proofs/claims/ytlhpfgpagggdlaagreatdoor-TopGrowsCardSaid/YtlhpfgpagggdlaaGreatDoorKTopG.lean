/- TopG: Walk: TopGrows. The conditions of each are in its words. -/
import Derived.Test.YtlhpfgpagggdlaaGreatDoorKTopQ
namespace Go.Proofs.YtlhpfgpagggdlaaGreatDoor
open Go.RowKit
set_option linter.unusedVariables false
set_option linter.unusedSimpArgs false
set_option maxRecDepth 100000
set_option maxHeartbeats 8000000
theorem cP8 (w:World) (hT:bD w) (hH:bL w) (A:Option Addr) (l:List Ac) (k c:Nat) (ha:Acs All w A l) (hl:∀ a ∈ l,aB6 a=0) (hk:k≤l.length) (hn:l.length≤100000) :
  Calls Tryz.prog 16 #[.slice A k c] w (cP7 w (bM (l.take k)).out):=by
 have h:=cZ3 w hT hH A (l.take k) c (cZ4 ha k) (fun a h=>hl a (List.mem_of_mem_take h)) (by rw[List.length_take];omega)
 rw[List.length_take,Nat.min_eq_left hk] at h
 exact h
theorem cX6 (w:World) (hT:bD w) (hH:bL w):Calls Tryz.prog 16 #[.slice none 0 0] w (cP7 w (bM ([]:List Ac)).out) :=
 cZ3 w hT hH none [] 0 SL.nil (fun a h=>by cases h) (by decide)
theorem grows_at {l:List Ac} (hl:∀ a ∈ l,aB6 a=0) {k:Nat} (hk:k<l.length) :
  ((bM (l.take k)).out.turn≤(bM (l.take (k+1))).out.turn∧(bM (l.take (k+1))).out.turn≤(bM (l.take k)).out.turn+(bM (l.take k)).out.pending∧(bM (l.take k)).out.replies.length≤(bM (l.take (k+1))).out.replies.length)∧((bM (l.take k)).out.turn<(bM (l.take (k+1))).out.turn→l[k].kind=2∨l[k].kind=3)∧0≤(bM (l.take k)).out.turn∧0≤(bM (l.take k)).out.pending∧(bM (l.take k)).out.turn+(bM (l.take k)).out.pending≤300:=by
 have hi:=cZ1 (l:=l.take k) fun a h=>hl a (List.mem_of_mem_take h)
 have ha:=hl l[k] (List.getElem_mem hk)
 have he:bM (l.take (k+1))=doE (bM (l.take k)) l[k]:=by rw[aC8 l k hk,cZ2]
 rw[he]
 obtain⟨h1,h2,⟨r,h3⟩,h4⟩:=cV9 hi ha
 have hw:=hi.wait
 have hm:=hi.many
 generalize bM (l.take k)=g at *
 generalize doE g l[k]=g' at *
 refine⟨⟨?_,?_,?_⟩,fun h=>h4 ?_,?_,?_,?_⟩
 ·show (g.synced:Int)≤(g'.synced:Int);omega
 ·show (g'.synced:Int)≤(g.synced:Int)+(g.waiting.length:Int);omega
 ·show g.replies.length≤g'.replies.length;rw[h3];simp
 ·have h':(g.synced:Int)<(g'.synced:Int):=h
  omega
 ·show (0:Int)≤(g.synced:Int);omega
 ·show (0:Int)≤(g.waiting.length:Int);omega
 ·show (g.synced:Int)+(g.waiting.length:Int)≤300;omega
theorem cC3 (w:World) (hT:bD w) (hH:bL w) (A:Option Addr) (l:List Gr) (c:Nat) (ha:Grs All w A l) (hl:l.length≤big) :
  Calls Tryz.prog 13 #[.slice A l.length c] w (bQ w (.bool true)):=by
 have HT:=zh hT
 have HH:=zh hH
 have Ha:=zh ha
 clear hT hH ha
 go_enter Tryz.func13,Tryz.ntmps13
 go_wp2_with (first
  | (go_at_call 15;(with_reducible refine (cX5 _ ?hT A l c 40 40 rfl AO ?ha hl).mono ?_);(case hT=>exact HH.out);(case ha=>exact Ha.out);rintro e1 w1 ⟨xs,v,rfl,hxl,hxs,hown,hb1⟩;obtain⟨VA,vc,rfl,hvc,hacs⟩:=hown.readc acR_stays;have Hxs:=zh hxs;have HX:=zh (show Acs (fun b=>b<w1.heap.size) w1 VA xs from hacs.less acR_stays fun b hb _=>hb);have Hb1:=zh hb1;clear hxs hown hacs hb1)
  | (go_at_call 16;(with_reducible refine (cX6 _ ?hT ?hH).mono ?_);(case hT=>exact HT.out.below Hb1.out);(case hH=>exact HH.out.below Hb1.out);rintro e2 w2 ⟨F2,f2,R2,r2,rfl,_,_,hb2⟩))
 have hbA:Below w.heap.size w (w2.alloc (.cells #[.bool (bM ([]:List Ac)).out.up,.int .i64 (bM ([]:List Ac)).out.turn,.int .i64 (bM ([]:List Ac)).out.pending,.slice F2 (bM ([]:List Ac)).out.forest.length f2,.slice R2 (bM ([]:List Ac)).out.replies.length r2] 28)):=(Hb1.out.next hb2 Hb1.out.size).alloc (Nat.le_trans Hb1.out.size hb2.size) _
 have hsA:aC (fun b=>b<w1.heap.size) w1 (w2.alloc (.cells #[.bool (bM ([]:List Ac)).out.up,.int .i64 (bM ([]:List Ac)).out.turn,.int .i64 (bM ([]:List Ac)).out.pending,.slice F2 (bM ([]:List Ac)).out.forest.length f2,.slice R2 (bM ([]:List Ac)).out.replies.length r2] 28)):=(aC.of_below hb2).alloc _
 have hbx:(w2.alloc (.cells #[.bool (bM ([]:List Ac)).out.up,.int .i64 (bM ([]:List Ac)).out.turn,.int .i64 (bM ([]:List Ac)).out.pending,.slice F2 (bM ([]:List Ac)).out.forest.length f2,.slice R2 (bM ([]:List Ac)).out.replies.length r2] 28)).heap[w2.heap.size]?=some (.cells #[.bool (bM ([]:List Ac)).out.up,.int .i64 (bM ([]:List Ac)).out.turn,.int .i64 (bM ([]:List Ac)).out.pending,.slice F2 (bM ([]:List Ac)).out.forest.length f2,.slice R2 (bM ([]:List Ac)).out.replies.length r2] 28 (0,0)):=aK w2 _ _
 have hlb:w1.heap.size≤w2.heap.size:=hb2.size
 obtain⟨lb,hlbe⟩:∃ lb,lb=w2.heap.size:=⟨_,rfl⟩
 rw[← hlbe] at hbx hlb ⊢
 obtain⟨w3,hw3⟩:∃ w3,w3=w2.alloc (.cells #[.bool (bM ([]:List Ac)).out.up,.int .i64 (bM ([]:List Ac)).out.turn,.int .i64 (bM ([]:List Ac)).out.pending,.slice F2 (bM ([]:List Ac)).out.forest.length f2,.slice R2 (bM ([]:List Ac)).out.replies.length r2] 28):=⟨_,rfl⟩
 rw[← hw3] at hbA hsA hbx ⊢
 clear hw3 hlbe hb2
 go_loopw [6] (fun i wr=>∃ (k:Nat) (F:Option Addr) (f:Nat) (R:Option Addr) (r:Nat),k≤xs.length∧i=.int .i64 k∧wr.heap[lb]?=some (.cells #[.bool (bM (xs.take k)).out.up,.int .i64 (bM (xs.take k)).out.turn,.int .i64 (bM (xs.take k)).out.pending,.slice F (bM (xs.take k)).out.forest.length f,.slice R (bM (xs.take k)).out.replies.length r] 28 (0,0))∧aC (fun b=>b<w1.heap.size) w1 wr∧Below w.heap.size w wr) (fun i _=>xs.length - (intOf i).toNat)
 case atStart=>exact⟨0,F2,f2,R2,r2,AO,rfl,hbx,hsA,hbA⟩
 case round =>
  obtain⟨k,F,f,R,r,hk,rfl,hbk,hsk,hbr⟩:=hrel
  have Hbk:=zh hbk
  have Hsk:=zh hsk
  have Hbr:=zh hbr
  clear hbk hsk hbr
  by_cases hlt:k<xs.length
  ·obtain⟨⟨m1,m2,m3⟩,m4,m5,m6,m7⟩:=grows_at Hxs.out hlt
   obtain⟨b,off,D,d,rfl,hab,a0,_⟩:=cO9 (HX.out.same acR_stays Hsk.out) hlt
   have hbz:lb<wr.heap.size:=(Array.getElem?_eq_some_iff.1 Hbk.out).1
   have hran:=zh (cP8 wr (HT.out.below Hbr.out) (HH.out.below Hbr.out) (some ⟨b,off,none⟩) xs (k+1) (k+1) ((HX.out.same acR_stays Hsk.out).z acR_stays) Hxs.out AO AO)
   have hb1':b<w1.heap.size:=by
    obtain⟨b',off',hA',hS',_⟩:=HX.out AO
    have hbb:b=b':=congrArg Addr.block (Option.some.inj hA')
    rw[hbb]
    exact hS'
   have hwl:w.heap.size≤lb:=by have:=Hb1.out.size;omega
   have hnb:¬ (b=lb):=by omega
   have hnb':¬ (lb=b):=by omega
   obtain⟨o,ho⟩:∃ o,o=(bM (xs.take k)).out:=⟨_,rfl⟩
   obtain⟨o',ho'⟩:∃ o',o'=(bM (xs.take (k+1))).out:=⟨_,rfl⟩
   rw[← ho] at m1 m2 m3 m4 m5 m6 m7 Hbk
   rw[← ho'] at m1 m2 m3 m4 hran
   have Ho':=zh ho'
   generalize xs[k]=x at *
   have i0:(0:Int)≤(k:Int):=by omega
   have i1:(k:Int)<(xs.length:Int):=by omega
   have i2:(k:Int)+1≤(xs.length:Int):=by omega
   have i3:(k:Int)+1≤(vc:Int):=by omega
   have m3':(o.replies.length:Int)≤(o'.replies.length:Int):=by omega
   clear ho ho'
   have hcase:o'.turn≤o.turn∨(o.turn<o'.turn∧x.kind=2)∨(o.turn<o'.turn∧x.kind=3):=by
    rcases Int.lt_or_le o.turn o'.turn with h|h
    ·rcases m4 h with h2|h2
     ·exact .inr (.inl ⟨h,h2⟩)
     ·exact .inr (.inr ⟨h,h2⟩)
    ·exact .inl h
   clear m4
   rcases hcase with hc1|⟨hc1,hc2⟩|⟨hc1,hc2⟩
   all_goals
    (try rw[hc2] at a0)
    go_wp2_with (go_at_call 16;(with_reducible refine hran.out.mono ?_);rintro e4 w4 ⟨F',f',R',r',rfl,_,_,hb4⟩;have hP:=aK w4 #[.bool o'.up,.int .i64 o'.turn,.int .i64 o'.pending,.slice F' o'.forest.length f',.slice R' o'.replies.length r'] 28;have hB:=(aB9 w4 (.cells #[.bool o'.up,.int .i64 o'.turn,.int .i64 o'.pending,.slice F' o'.forest.length f',.slice R' o'.replies.length r'] 28) (Nat.lt_of_lt_of_le hbz hb4.size)).trans ((hb4.block lb hbz).trans Hbk.out);have hSk4:aC (fun b=>b<w1.heap.size) w1 (w4.alloc (.cells #[.bool o'.up,.int .i64 o'.turn,.int .i64 o'.pending,.slice F' o'.forest.length f',.slice R' o'.replies.length r'] 28)):=(Hsk.out.trans (aC.of_below hb4)).alloc _;have hbr4:Below w.heap.size w (w4.alloc (.cells #[.bool o'.up,.int .i64 o'.turn,.int .i64 o'.pending,.slice F' o'.forest.length f',.slice R' o'.replies.length r'] 28)):=(Hbr.out.next hb4 Hbr.out.size).alloc (Nat.le_trans Hbr.out.size hb4.size) _;have q0:=aA (cs:=[.bool o'.up,.int .i64 o'.turn,.int .i64 o'.pending,.slice F' o'.forest.length f',.slice R' o'.replies.length r']) hP 0;have t0:=aA (cs:=[.bool o.up,.int .i64 o.turn,.int .i64 o.pending,.slice F o.forest.length f,.slice R o.replies.length r]) hB 0;have f0:=aD (cs:=[.bool o.up,.int .i64 o.turn,.int .i64 o.pending,.slice F o.forest.length f,.slice R o.replies.length r]) hB 0;have q1:=aA (cs:=[.bool o'.up,.int .i64 o'.turn,.int .i64 o'.pending,.slice F' o'.forest.length f',.slice R' o'.replies.length r']) hP 1;have t1:=aA (cs:=[.bool o.up,.int .i64 o.turn,.int .i64 o.pending,.slice F o.forest.length f,.slice R o.replies.length r]) hB 1;have f1:=aD (cs:=[.bool o.up,.int .i64 o.turn,.int .i64 o.pending,.slice F o.forest.length f,.slice R o.replies.length r]) hB 1;have q2:=aA (cs:=[.bool o'.up,.int .i64 o'.turn,.int .i64 o'.pending,.slice F' o'.forest.length f',.slice R' o'.replies.length r']) hP 2;have t2:=aA (cs:=[.bool o.up,.int .i64 o.turn,.int .i64 o.pending,.slice F o.forest.length f,.slice R o.replies.length r]) hB 2;have f2:=aD (cs:=[.bool o.up,.int .i64 o.turn,.int .i64 o.pending,.slice F o.forest.length f,.slice R o.replies.length r]) hB 2;have q3:=aA (cs:=[.bool o'.up,.int .i64 o'.turn,.int .i64 o'.pending,.slice F' o'.forest.length f',.slice R' o'.replies.length r']) hP 3;have t3:=aA (cs:=[.bool o.up,.int .i64 o.turn,.int .i64 o.pending,.slice F o.forest.length f,.slice R o.replies.length r]) hB 3;have f3:=aD (cs:=[.bool o.up,.int .i64 o.turn,.int .i64 o.pending,.slice F o.forest.length f,.slice R o.replies.length r]) hB 3;have q4:=aA (cs:=[.bool o'.up,.int .i64 o'.turn,.int .i64 o'.pending,.slice F' o'.forest.length f',.slice R' o'.replies.length r']) hP 4;have t4:=aA (cs:=[.bool o.up,.int .i64 o.turn,.int .i64 o.pending,.slice F o.forest.length f,.slice R o.replies.length r]) hB 4;have f4:=aD (cs:=[.bool o.up,.int .i64 o.turn,.int .i64 o.pending,.slice F o.forest.length f,.slice R o.replies.length r]) hB 4;simp only[List.getElem?_cons_zero,List.getElem?_cons_succ] at q0 q1 q2 q3 q4 t0 t1 t2 t3 t4;have a0':=(((Below.refl w4.heap.size w4).alloc zn (.cells #[.bool o'.up,.int .i64 o'.turn,.int .i64 o'.pending,.slice F' o'.forest.length f',.slice R' o'.replies.length r'] 28)).cell (p:=⟨b,off+k*4,none⟩) (Nat.lt_of_lt_of_le hab hb4.size)).trans ((hb4.cell (p:=⟨b,off+k*4,none⟩) hab).trans a0);have nlb:¬ (w4.heap.size=lb):=(by have:=hb4.size;omega);have nlb':¬ (lb=w4.heap.size):=(by have:=hb4.size;omega))
    go_roundw
    case rel=>exact⟨k+1,F',f',R',r',AO,by go_num,by rw[← Ho'.out];exact heap_setCell_same _ lb 4 _ _ _ (heap_setCell_same _ lb 3 _ _ _ (heap_setCell_same _ lb 2 _ _ _ (heap_setCell_same _ lb 1 _ _ _ (heap_setCell_same _ lb 0 _ _ _ (hB))))),(((((hSk4.setCell (p:=⟨lb,0,none⟩) (fun h=>absurd (show lb<w1.heap.size from h) AO) _).setCell (p:=⟨lb,1,none⟩) (fun h=>absurd (show lb<w1.heap.size from h) AO) _).setCell (p:=⟨lb,2,none⟩) (fun h=>absurd (show lb<w1.heap.size from h) AO) _).setCell (p:=⟨lb,3,none⟩) (fun h=>absurd (show lb<w1.heap.size from h) AO) _).setCell (p:=⟨lb,4,none⟩) (fun h=>absurd (show lb<w1.heap.size from h) AO) _),(((((hbr4.setCell (p:=⟨lb,0,none⟩) hwl _).setCell (p:=⟨lb,1,none⟩) hwl _).setCell (p:=⟨lb,2,none⟩) hwl _).setCell (p:=⟨lb,3,none⟩) hwl _).setCell (p:=⟨lb,4,none⟩) hwl _)⟩
    case measure=>simp[intOf];omega
  ·have i1:(xs.length:Int)≤(k:Int):=by omega
   go_wp2
   go_ret
   exact⟨rfl,Hbr.out⟩
theorem bU5 (w:World) (hT:bD w) (hH:bL w) {A:Option Addr} {l:List Gr} {c:Nat} (h:Grs All w A l∧l.length≤big) :
  Calls Tryz.prog 13 #[.slice A l.length c] w (bQ w (.bool true)):=cC3 w hT hH A l c h.1 h.2
end Go.Proofs.YtlhpfgpagggdlaaGreatDoor
