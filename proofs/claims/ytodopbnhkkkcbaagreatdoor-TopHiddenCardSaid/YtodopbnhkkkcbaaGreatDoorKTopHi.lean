/- TopHi: Walk: TopHidden. The conditions of each are in its words. -/
import Derived.Deep.CutRange
import Derived.Test.YtodopbnhkkkcbaaGreatDoorKTopW
import Derived.Test.YtodopbnhkkkcbaaGreatDoorKHidK
import Derived.Test.YtodopbnhkkkcbaaGreatDoorKTopL
namespace Go.Proofs.YtodopbnhkkkcbaaGreatDoor
open Go.RowKit
set_option linter.unusedVariables false
set_option linter.unusedSimpArgs false
set_option maxRecDepth 100000
set_option maxHeartbeats 8000000
theorem key_one {k:List UInt8} (h:k.length=1):aE k=0:=by
 unfold aE
 simp[h]
section
variable {w1 wb WX : World} {bx : Nat} {t : TypeId} {v0 v1 v2 v3 v4 u0 u1 u2 u3 u4 : Value}
theorem box_set (h:wb.heap[bx]?=some (.cells #[v0,v1,v2,v3,v4] t (0,0))) (hl:w1.heap.size≤bx) (hb:Below w1.heap.size w1 wb) (hW:WX=((wb.setCell ⟨bx,0,none⟩ u0).setCell ⟨bx,3,none⟩ u3).setCell ⟨bx,4,none⟩ u4):WX.heap[bx]?=some (.cells #[u0,v1,v2,u3,u4] t (0,0))∧Below w1.heap.size w1 WX∧aC (fun b=>aB w1.heap.size b∧b<bx) wb WX∧bx<WX.heap.size:=by
 have h1:=heap_setCell_same _ bx 0 _ _ u0 h
 have h2:=heap_setCell_same _ bx 3 _ _ u3 h1
 have h3:=heap_setCell_same _ bx 4 _ _ u4 h2
 rw[← hW] at h3
 refine⟨h3,?_,?_,(Array.getElem?_eq_some_iff.1 h3).1⟩
 ·rw[hW];exact ((hb.setCell (p:=⟨bx,0,none⟩) hl _).setCell (p:=⟨bx,3,none⟩) hl _).setCell (p:=⟨bx,4,none⟩) hl _
 ·rw[hW];exact (((aC.refl _ _).setCell (p:=⟨bx,0,none⟩) (fun h=>Nat.lt_irrefl _ h.2) _).setCell (p:=⟨bx,3,none⟩) (fun h=>Nat.lt_irrefl _ h.2) _).setCell (p:=⟨bx,4,none⟩) (fun h=>Nat.lt_irrefl _ h.2) _
theorem dJ7 {x y:UInt8} {t2:TypeId} (h:wb.heap[bx]?=some (.cells #[v0,v1,v2,v3,v4] t (0,0))) (hx:bx<wb.heap.size) (hl:w1.heap.size≤bx) (hb:Below w1.heap.size w1 wb) (hW:WX=((((((wb.setCell ⟨bx,0,none⟩ u0).setCell ⟨bx,1,none⟩ u1).setCell ⟨bx,2,none⟩ u2).setCell ⟨bx,3,none⟩ u3).setCell ⟨bx,4,none⟩ u4).alloc (.cells #[bv x] t2)).alloc (.cells #[bv y] t2)):WX.heap[bx]?=some (.cells #[u0,u1,u2,u3,u4] t (0,0))∧Below w1.heap.size w1 WX∧Bs All WX (some ⟨wb.heap.size,0,none⟩) [x]∧Bs All WX (some ⟨wb.heap.size+1,0,none⟩) [y]∧bx<WX.heap.size:=by
 have h1:=heap_setCell_same _ bx 0 _ _ u0 h
 have h2:=heap_setCell_same _ bx 1 _ _ u1 h1
 have h3:=heap_setCell_same _ bx 2 _ _ u2 h2
 have h4:=heap_setCell_same _ bx 3 _ _ u3 h3
 have h5:=heap_setCell_same _ bx 4 _ _ u4 h4
 have hb5:=((((hb.setCell (p:=⟨bx,0,none⟩) hl u0).setCell (p:=⟨bx,1,none⟩) hl u1).setCell (p:=⟨bx,2,none⟩) hl u2).setCell (p:=⟨bx,3,none⟩) hl u3).setCell (p:=⟨bx,4,none⟩) hl u4
 have hsz:(((((wb.setCell ⟨bx,0,none⟩ u0).setCell ⟨bx,1,none⟩ u1).setCell ⟨bx,2,none⟩ u2).setCell ⟨bx,3,none⟩ u3).setCell ⟨bx,4,none⟩ u4).heap.size=wb.heap.size:=by simp[World.setCell]
 generalize ((((wb.setCell ⟨bx,0,none⟩ u0).setCell ⟨bx,1,none⟩ u1).setCell ⟨bx,2,none⟩ u2).setCell ⟨bx,3,none⟩ u3).setCell ⟨bx,4,none⟩ u4=W5 at *
 obtain⟨q1,q2,q3,q4⟩:=aM6 W5 (.cells #[bv x] t2) (.cells #[bv y] t2)
 rw[← hW] at q1 q2 q3 q4
 have hbx:=((q4.block bx AO).trans h5)
 refine⟨hbx,hb5.next q4 hb5.size,?_,?_,(Array.getElem?_eq_some_iff.1 hbx).1⟩
 ·rw[← hsz];exact sl_one _ _ [bv x] _ q1 rfl _ rfl trivial
 ·rw[← hsz];exact sl_one _ _ [bv y] _ q2 rfl _ rfl trivial
end
theorem dJ8 {S:Nat→Prop} {w:World} {A:Option Addr} {d:List UInt8} (h:Bs S w A d) {nb:Nat} {cs:List Value} {t:TypeId} (hb:w.heap[nb]?=some (.cells cs.toArray t (0,0))) (hc:∀ u ∈ cs,∀ x,u≠.int .u8 x):Bs (fun b=>b≠nb) w A d:=by
 intro hl
 obtain⟨b,off,hA,_,hlt,hi⟩:=h hl
 refine⟨b,off,hA,fun e=>?_,hlt,hi⟩
 obtain⟨c,_,h1,h2⟩:=hi 0 hl
 have h3:=h1 0 AO
 rw[show c=[bv d[0]] from h2,e,aA hb] at h3
 exact hc _ (List.mem_of_getElem? h3) _ rfl
structure Told (W2:World) (nb:Nat) (u:Bool) (tn pd:Int) (fo:List Tn) (rl:List Rp) (p:Rp) (F:Option Addr) (f:Nat) (R:Option Addr) (r:Nat) (W:World):Prop where
 bel:Below W2.heap.size W2 W
 box:W.heap[nb]?=some (.cells #[.bool u,.int .i64 tn,.int .i64 pd,.slice F fo.length f,.slice R (rl.length+1) r] 34 (0,0))
 fo:Ts All W F fo
 re:∃ b off V v P pn Q q A n K a X y A' n' K' a' X' y',R=some ⟨b,off,none⟩∧b<W.heap.size∧(∀ j,j<15→W.cell? ⟨b,off+rl.length*15+j,none⟩=(dE6 p V v P pn Q q A n K a X y A' n' K' a' X' y')[j]?)∧Bs All W V p.value
section
variable {W2 y : World} {nb k : Nat} {u : Bool} {tn pd : Int} {fo : List Tn} {rl : List Rp} {p : Rp} {F : Option Addr} {f : Nat} {R : Option Addr} {r : Nat}
theorem told_new (hq:Below W2.heap.size W2 y) (hf:Ts (aB k) y F fo) (hv:SL 15 RpR All y R (rl++[p])):Told W2 y.heap.size u tn pd fo rl p F f R r (y.alloc (.cells #[.bool u,.int .i64 tn,.int .i64 pd,.slice F fo.length f,.slice R (rl.length+1) r] 34)):=by
 have ha:=(Below.refl y.heap.size y).alloc zn (.cells #[.bool u,.int .i64 tn,.int .i64 pd,.slice F fo.length f,.slice R (rl.length+1) r] 34)
 refine⟨hq.alloc hq.size _,aK _ _ _,(hf.below tenR_stays ha).z tenR_stays,?_⟩
 obtain⟨b,off,V,v,P,pn,Q,q,A,n,K,a,X,x,A',n',K',a',X',x',h1,h2,h3,h4,_⟩:=rep_vals (hv.below rpR_stays ha) (show rl.length<(rl++[p]).length by simp)
 rw[show (rl++[p])[rl.length]'ZH2=p by simp] at h3 h4
 exact⟨b,off,V,v,P,pn,Q,q,A,n,K,a,X,x,A',n',K',a',X',x',h1,h2,h3,h4⟩
theorem dJ9 (hq:Below W2.heap.size W2 y) (hf:Ts (aB k) y F fo) (hb:SL 15 RpB (aB k) y R (rl++[p])) (hv:SL 15 RpR All y R (rl++[p])) (hz:y.heap[nb]?=some (.cells #[.bool false,.int .i64 0,.int .i64 0,.slice none 0 0,.slice none 0 0] 34 (0,0))) (hk:nb<k) (hlo:W2.heap.size≤nb):Told W2 nb u tn pd fo rl p F f R r (((((y.setCell ⟨nb,0,none⟩ (.bool u)).setCell ⟨nb,1,none⟩ (.int .i64 tn)).setCell ⟨nb,2,none⟩ (.int .i64 pd)).setCell ⟨nb,3,none⟩ (.slice F fo.length f)).setCell ⟨nb,4,none⟩ (.slice R (rl.length+1) r)):=by
 have h1:=heap_setCell_same _ nb 0 _ _ (.bool u) hz
 have h2:=heap_setCell_same _ nb 1 _ _ (.int .i64 tn) h1
 have h3:=heap_setCell_same _ nb 2 _ _ (.int .i64 pd) h2
 have h4:=heap_setCell_same _ nb 3 _ _ (.slice F fo.length f) h3
 have h5:=heap_setCell_same _ nb 4 _ _ (.slice R (rl.length+1) r) h4
 have hs:aC (fun b=>b≠nb) y (((((y.setCell ⟨nb,0,none⟩ (.bool u)).setCell ⟨nb,1,none⟩ (.int .i64 tn)).setCell ⟨nb,2,none⟩ (.int .i64 pd)).setCell ⟨nb,3,none⟩ (.slice F fo.length f)).setCell ⟨nb,4,none⟩ (.slice R (rl.length+1) r)) :=
  (((((aC.refl _ _).setCell (p:=⟨nb,0,none⟩) (fun h=>h rfl) _).setCell (p:=⟨nb,1,none⟩) (fun h=>h rfl) _).setCell (p:=⟨nb,2,none⟩) (fun h=>h rfl) _).setCell (p:=⟨nb,3,none⟩) (fun h=>h rfl) _).setCell (p:=⟨nb,4,none⟩) (fun h=>h rfl) _
 refine⟨((((hq.setCell (p:=⟨nb,0,none⟩) hlo _).setCell (p:=⟨nb,1,none⟩) hlo _).setCell (p:=⟨nb,2,none⟩) hlo _).setCell (p:=⟨nb,3,none⟩) hlo _).setCell (p:=⟨nb,4,none⟩) hlo _,h5,((hf.less tenR_stays fun b _ h=>Nat.ne_of_gt (Nat.lt_of_lt_of_le hk h)).same tenR_stays hs).z tenR_stays,?_⟩
 obtain⟨b,off,V,v,P,pn,Q,q,A,n,K,a,X,x,A',n',K',a',X',x',g1,g2,g3,g4,_⟩:=rep_vals hv (show rl.length<(rl++[p]).length by simp)
 obtain⟨b2,off2,cs,e1,e2,e3,_⟩:=hb.at (show rl.length<(rl++[p]).length by simp)
 rw[g1] at e1
 have hbb:b2=b:=by simp at e1;exact e1.1.symm
 rw[hbb] at e2
 rw[show (rl++[p])[rl.length]'ZH2=p by simp] at g3 g4
 have hne:b≠nb:=Nat.ne_of_gt (Nat.lt_of_lt_of_le hk e2)
 refine⟨b,off,V,v,P,pn,Q,q,A,n,K,a,X,x,A',n',K',a',X',x',g1,Nat.lt_of_lt_of_le g2 hs.size,fun j hj=>(hs.cell (p:=⟨b,off+rl.length*15+j,none⟩) hne g2).trans (g3 j hj),((dJ8 g4 (cs:=[.bool false,.int .i64 0,.int .i64 0,.slice none 0 0,.slice none 0 0]) hz ?_).bsame hs).bz⟩
 intro v hv x
 simp at hv
 rcases hv with rfl|rfl|rfl <;> simp
end
theorem dK0 (w:World) (hT:bD w) (hH:bL w) (A:Option Addr) (l:List Gr) (c:Nat) (ha:Grs All w A l) (hl:l.length≤big) (g:Gr) (h1:aS3 g.kind) (h3:aS3 g.name) (h4:aS3 g.key) (h5:aS3 g.value) :
  Calls Tryz.prog 3 #[.slice A l.length c,.agg #[.int .i64 g.kind,.int .i64 g.session,.int .i64 g.name,.int .i64 g.key,.int .i64 g.value]] w (bQ w (.bool true)):=by
 have hwg:=(Below.refl w.heap.size w).alloc zn (.cells #[.int .i64 g.kind,.int .i64 g.session,.int .i64 g.name,.int .i64 g.key,.int .i64 g.value] 24)
 have hbg:=aK w #[.int .i64 g.kind,.int .i64 g.session,.int .i64 g.name,.int .i64 g.key,.int .i64 g.value] 24
 have Hwg:=zh hwg
 have HT:=zh hT
 have HH:=zh hH
 have Ha:=zh (ha.below grR_stays hwg)
 obtain⟨i0,z0,hi0,hz0,hz1,hz2,hz3⟩:=ac_parts
 go_enter Tryz.func3,Tryz.ntmps3
 go_upto_region 1 with fail
 obtain⟨wg,hwge⟩:∃ wg,wg=w.alloc (.cells #[.int .i64 g.kind,.int .i64 g.session,.int .i64 g.name,.int .i64 g.key,.int .i64 g.value] 24):=⟨_,rfl⟩
 rw[← hwge] at hbg Hwg Ha ⊢
 obtain⟨gb,hgbe⟩:∃ gb,gb=w.heap.size:=⟨_,rfl⟩
 rw[← hgbe] at hbg ⊢
 have lgb:gb<wg.heap.size:=(Array.getElem?_eq_some_iff.1 hbg).1
 have hwlg:w.heap.size≤gb:=by omega
 have Hbg:=zh hbg
 clear hwge hgbe hwg hbg hT hH ha
 go_upto_region 2 with (go_at_call 10;(with_reducible refine (cX5 _ ?hT A l c 40 40 rfl AO ?ha hl).mono ?_);(case hT=>exact HH.out.below Hwg.out);(case ha=>exact Ha.out);rintro e1 w1 ⟨xs,v,rfl,hxl,hxs,hown,hb1⟩;obtain⟨VA,vc,rfl,hvc,hacs⟩:=hown.readc acR_stays;have Hxs:=zh hxs;have Hown1:=zh hown;have HX1:=zh hacs;have Hb1:=zh hb1;clear hxs hown hacs hb1)
 have g0:=aA (cs:=[.int .i64 g.kind,.int .i64 g.session,.int .i64 g.name,.int .i64 g.key,.int .i64 g.value]) ((Hb1.out.block gb lgb).trans Hbg.out) 0
 have g1:=aA (cs:=[.int .i64 g.kind,.int .i64 g.session,.int .i64 g.name,.int .i64 g.key,.int .i64 g.value]) ((Hb1.out.block gb lgb).trans Hbg.out) 1
 have g2:=aA (cs:=[.int .i64 g.kind,.int .i64 g.session,.int .i64 g.name,.int .i64 g.key,.int .i64 g.value]) ((Hb1.out.block gb lgb).trans Hbg.out) 2
 have g3:=aA (cs:=[.int .i64 g.kind,.int .i64 g.session,.int .i64 g.name,.int .i64 g.key,.int .i64 g.value]) ((Hb1.out.block gb lgb).trans Hbg.out) 3
 have g4:=aA (cs:=[.int .i64 g.kind,.int .i64 g.session,.int .i64 g.name,.int .i64 g.key,.int .i64 g.value]) ((Hb1.out.block gb lgb).trans Hbg.out) 4
 simp only[List.getElem?_cons_zero,List.getElem?_cons_succ] at g0 g1 g2 g3 g4
 go_upto_region 3 with (go_at_call 11;(with_reducible refine (cP6 _ g h1 h3 h4 h5).mono ?_);rintro e5 u5 ⟨r,A5,a5,B5,b5,C5,c5,D5,d5,rfl,hfine,s1,s2,s3,s4,hb5⟩;have S1:=zh s1;have S2:=zh s2;have Hfine:=zh hfine;have Hb5:=zh hb5;clear s1 s2 s3 s4 hb5 hfine)
 have hbx:=aK u5 #[.int .i64 r.kind,.slice A5 r.name.length a5,.slice B5 r.key.length b5,.slice C5 r.last.length c5,.slice D5 r.value.length d5] 29
 obtain⟨wb,hwb⟩:∃ wb,wb=u5.alloc (.cells #[.int .i64 r.kind,.slice A5 r.name.length a5,.slice B5 r.key.length b5,.slice C5 r.last.length c5,.slice D5 r.value.length d5] 29):=⟨_,rfl⟩
 have hwu:Below w1.heap.size w1 wb:=by rw[hwb];exact Hb5.out.alloc Hb5.out.size _
 have T1:=zh (show Bs (fun b=>aB w1.heap.size b∧b<u5.heap.size) wb A5 r.name by rw[hwb];exact (S1.out.bless fun b hb h=>⟨h,hb⟩).bbelow ((Below.refl _ _).alloc zn _))
 have T2:=zh (show Bs (fun b=>aB w1.heap.size b∧b<u5.heap.size) wb B5 r.key by rw[hwb];exact (S2.out.bless fun b hb h=>⟨h,hb⟩).bbelow ((Below.refl _ _).alloc zn _))
 rw[← hwb] at hbx ⊢
 have hl5:=Hb5.out.size
 obtain⟨bx,hbxe⟩:∃ bx,bx=u5.heap.size:=⟨_,rfl⟩
 have hlb:w1.heap.size≤bx:=by omega
 rw[← hbxe] at hbx T1 T2 ⊢
 have hbl:bx<wb.heap.size:=(Array.getElem?_eq_some_iff.1 hbx).1
 have x0:=aA (cs:=[.int .i64 r.kind,.slice A5 r.name.length a5,.slice B5 r.key.length b5,.slice C5 r.last.length c5,.slice D5 r.value.length d5]) hbx 0
 have x1:=aA (cs:=[.int .i64 r.kind,.slice A5 r.name.length a5,.slice B5 r.key.length b5,.slice C5 r.last.length c5,.slice D5 r.value.length d5]) hbx 1
 have x2:=aA (cs:=[.int .i64 r.kind,.slice A5 r.name.length a5,.slice B5 r.key.length b5,.slice C5 r.last.length c5,.slice D5 r.value.length d5]) hbx 2
 have x3:=aA (cs:=[.int .i64 r.kind,.slice A5 r.name.length a5,.slice B5 r.key.length b5,.slice C5 r.last.length c5,.slice D5 r.value.length d5]) hbx 3
 have x4:=aA (cs:=[.int .i64 r.kind,.slice A5 r.name.length a5,.slice B5 r.key.length b5,.slice C5 r.last.length c5,.slice D5 r.value.length d5]) hbx 4
 have f0:=aD (cs:=[.int .i64 r.kind,.slice A5 r.name.length a5,.slice B5 r.key.length b5,.slice C5 r.last.length c5,.slice D5 r.value.length d5]) hbx 0
 have f1:=aD (cs:=[.int .i64 r.kind,.slice A5 r.name.length a5,.slice B5 r.key.length b5,.slice C5 r.last.length c5,.slice D5 r.value.length d5]) hbx 1
 have f2:=aD (cs:=[.int .i64 r.kind,.slice A5 r.name.length a5,.slice B5 r.key.length b5,.slice C5 r.last.length c5,.slice D5 r.value.length d5]) hbx 2
 have f3:=aD (cs:=[.int .i64 r.kind,.slice A5 r.name.length a5,.slice B5 r.key.length b5,.slice C5 r.last.length c5,.slice D5 r.value.length d5]) hbx 3
 have f4:=aD (cs:=[.int .i64 r.kind,.slice A5 r.name.length a5,.slice B5 r.key.length b5,.slice C5 r.last.length c5,.slice D5 r.value.length d5]) hbx 4
 simp only[List.getElem?_cons_zero,List.getElem?_cons_succ] at x0 x1 x2 x3 x4
 have Hbx:=zh hbx
 have Hwu:=zh hwu
 clear hwb hbxe hwu hbx S1 S2 Hb5 hl5 g0 g1 g2 g3 g4
 rcases Hfine.out.2.2.2 with ⟨hn,hk⟩|⟨hn,hk⟩
 case' inl =>
  have e1:((r.name.length:Int)==0)=true:=by simp[hn]
  have Hn:=zh hn
  have Hk:=zh hk
  clear hn hk
  go_upto_region 9 with fail
  have hbxx:=Hbx.out
  obtain⟨WX,hWX⟩:∃ WX,WX=((((((wb.setCell ⟨bx,0,none⟩ (.int .i64 8)).setCell ⟨bx,1,none⟩ (.slice (some ⟨wb.heap.size,0,none⟩) 1 1)).setCell ⟨bx,2,none⟩ (.slice (some ⟨wb.heap.size+1,0,none⟩) 1 1)).setCell ⟨bx,3,none⟩ (.slice none 0 0)).setCell ⟨bx,4,none⟩ (.slice none 0 0)).alloc (.cells #[.int .u8 97] 5)).alloc (.cells #[.int .u8 107] 5):=⟨_,rfl⟩
  rw[← hWX]
  obtain⟨p1,p2,p3,p4,p5⟩:=dJ7 (x:=97) (y:=107) hbxx hbl hlb Hwu.out hWX
  obtain⟨nm,nc,N1,hnm,hBN,hnf⟩:∃ (nm:List UInt8) (nc:Nat) (N1:Option Addr),(.slice (some ⟨wb.heap.size,0,none⟩) 1 1:Value)=.slice N1 nm.length nc∧Bs All WX N1 nm∧aI nm=0:=⟨[97],1,_,rfl,p3,by decide⟩
  obtain⟨kk,kc,K1,hkk,hBK,hkf⟩:∃ (kk:List UInt8) (kc:Nat) (K1:Option Addr),(.slice (some ⟨wb.heap.size+1,0,none⟩) 1 1:Value)=.slice K1 kk.length kc∧Bs All WX K1 kk∧aE kk=0:=⟨[107],1,_,rfl,p4,by decide⟩
  rw[hnm,hkk] at p1
  have HbX:=zh (Hwg.out.next (Hb1.out.next p2 Hb1.out.size) Hwg.out.size)
  have HXX:=zh (HX1.out.below acR_stays p2)
  clear p3 p4 hnm hkk
  have HXb:=zh p1
  have HNX:=zh hBN
  have HKX:=zh hBK
  have Hnf:=zh hnf
  have Hkf:=zh hkf
  clear p1 p2 hBN hBK hnf hkf hWX hbxx
  clear hbl
  have hbl:=p5
  clear p5 x0 x1 x2 x3 x4 f0 f1 f2 f3 f4 T1 T2 Hbx Hwu e1 Hn Hk
 case' inr =>
  have e1:((r.name.length:Int)==0)=false:=by
   have:0<r.name.length:=by
    cases h:r.name with
    | nil=>rw[h] at hn;exact absurd hn ZD9
    | cons a t=>simp
   have h2:¬ ((r.name.length:Int)=0):=by omega
   simpa using h2
  have Hn:=zh hn
  have Hk:=zh hk
  clear hn hk
  go_upto_region 9 with fail
  have hbxx:=Hbx.out
  obtain⟨WX,hWX⟩:∃ WX,WX=((wb.setCell ⟨bx,0,none⟩ (.int .i64 8)).setCell ⟨bx,3,none⟩ (.slice none 0 0)).setCell ⟨bx,4,none⟩ (.slice none 0 0):=⟨_,rfl⟩
  rw[← hWX]
  obtain⟨p1,p2,p3,p5⟩:=box_set hbxx hlb Hwu.out hWX
  obtain⟨nm,nc,N1,hnm,hBN,hnf⟩:∃ (nm:List UInt8) (nc:Nat) (N1:Option Addr),(.slice A5 r.name.length a5:Value)=.slice N1 nm.length nc∧Bs All WX N1 nm∧aI nm=0:=⟨r.name,a5,A5,rfl,(T1.out.bsame p3).bz,Hn.out⟩
  obtain⟨kk,kc,K1,hkk,hBK,hkf⟩:∃ (kk:List UInt8) (kc:Nat) (K1:Option Addr),(.slice B5 r.key.length b5:Value)=.slice K1 kk.length kc∧Bs All WX K1 kk∧aE kk=0:=⟨r.key,b5,B5,rfl,(T2.out.bsame p3).bz,key_one Hk.out⟩
  rw[hnm,hkk] at p1
  have HbX:=zh (Hwg.out.next (Hb1.out.next p2 Hb1.out.size) Hwg.out.size)
  have HXX:=zh (HX1.out.below acR_stays p2)
  clear p3 hnm hkk
  have HXb:=zh p1
  have HNX:=zh hBN
  have HKX:=zh hBK
  have Hnf:=zh hnf
  have Hkf:=zh hkf
  clear p1 p2 hBN hBK hnf hkf hWX hbxx
  clear hbl
  have hbl:=p5
  clear p5 x0 x1 x2 x3 x4 f0 f1 f2 f3 f4 T1 T2 Hbx Hwu e1 Hn Hk
 all_goals
  obtain⟨d,HAsk,hdf,hdd,hdl⟩:=dJ6 (dI9 Hnf.out Hkf.out)
  obtain⟨u,tn,pd,fo,rl,p,HRa,HRb,Hcase,Hget,hfo,hrl⟩:=dJ4 Hxs.out AO hdd hdf Hnf.out Hkf.out
  have Hcs:=zh Hcase
  have HGet:=zh Hget
  clear Hcase Hget hdf hdd hdl
  go_upto_region 10 with (go_at_call 12;(with_reducible refine (Hid.out HRa _ VA _ vc rfl ?hT ?hH ?ha).mono ?_);(case hT=>exact HT.out.below HbX.out);(case hH=>exact HH.out.below HbX.out);(case ha=>exact (HXX.out.z acR_stays));rintro e2 u2 ⟨F2,f2,R2,r2,W2,b2,hi2,rfl,hW2,hbb2,hhi2,hB2,hw2,hu2,hv2⟩;have HV2:=zh hv2;have HB2:=zh hB2;have Hw2:=zh hw2;have HW2:=zh hW2;have Hbb2:=zh hbb2;have Hhi2:=zh hhi2;clear hB2 hw2 hu2 hv2 hW2 hbb2 hhi2)
  rw[HW2.out,Hbb2.out]
  have hbA:=HbX.out.next Hw2.out HbX.out.size
  have hlA:=hbA.size
  have HY2:=zh ((HXX.out.below acR_stays Hw2.out).z acR_stays)
  have HN2:=zh (HNX.out.bbelow Hw2.out)
  have HK2:=zh (HKX.out.bbelow Hw2.out)
  have hx2:=(Hw2.out.block bx hbl).trans HXb.out
  have hb2l:bx<W2.heap.size:=Nat.lt_of_lt_of_le hbl Hw2.out.size
  have x0:=aA (cs:=[.int .i64 8,.slice N1 nm.length nc,.slice K1 kk.length kc,.slice none 0 0,.slice none 0 0]) hx2 0
  have x1:=aA (cs:=[.int .i64 8,.slice N1 nm.length nc,.slice K1 kk.length kc,.slice none 0 0,.slice none 0 0]) hx2 1
  have x2:=aA (cs:=[.int .i64 8,.slice N1 nm.length nc,.slice K1 kk.length kc,.slice none 0 0,.slice none 0 0]) hx2 2
  have x3:=aA (cs:=[.int .i64 8,.slice N1 nm.length nc,.slice K1 kk.length kc,.slice none 0 0,.slice none 0 0]) hx2 3
  have x4:=aA (cs:=[.int .i64 8,.slice N1 nm.length nc,.slice K1 kk.length kc,.slice none 0 0,.slice none 0 0]) hx2 4
  simp only[List.getElem?_cons_zero,List.getElem?_cons_succ] at x0 x1 x2 x3 x4
  have Hx2:=zh hx2
  have Hx0:=zh x0
  have Hx1:=zh x1
  have Hx2':=zh x2
  have Hx3:=zh x3
  have Hx4:=zh x4
  have qq:=Below.refl W2.heap.size W2
  clear HW2 Hbb2 HXX HNX HKX HXb HbX Hw2 hx2 HRa HX1 Hown1 Hb1 Ha Hbg Hwg
  go_cut [9,10] from 34 to 43 (fun s9 s10 wx=>∃ nb F6 f6 R6 r6,s9=.pointer (some ⟨nb,0,none⟩)∧s10=.bool true∧Told W2 nb u tn pd fo rl p F6 f6 R6 r6 wx)
  case first =>
   go_region_held3 (fun w'=>w'.cell? ⟨bx,0,none⟩=some (.int .i64 8)∧w'.cell? ⟨bx,1,none⟩=some (.slice N1 nm.length nc)∧w'.cell? ⟨bx,2,none⟩=some (.slice K1 kk.length kc)∧w'.cell? ⟨bx,3,none⟩=some (.slice none 0 0)∧w'.cell? ⟨bx,4,none⟩=some (.slice none 0 0))
    (first
    | with_reducible exact⟨(qq.cell hb2l).trans Hx0.out,(qq.cell hb2l).trans Hx1.out,(qq.cell hb2l).trans Hx2'.out,(qq.cell hb2l).trans Hx3.out,(qq.cell hb2l).trans Hx4.out⟩
    | with_reducible exact⟨((qq.alloc qq.size _).cell hb2l).trans Hx0.out,((qq.alloc qq.size _).cell hb2l).trans Hx1.out,((qq.alloc qq.size _).cell hb2l).trans Hx2'.out,((qq.alloc qq.size _).cell hb2l).trans Hx3.out,((qq.alloc qq.size _).cell hb2l).trans Hx4.out⟩
    | with_reducible exact⟨(((qq.alloc qq.size _).alloc AZ _).cell hb2l).trans Hx0.out,(((qq.alloc qq.size _).alloc AZ _).cell hb2l).trans Hx1.out,(((qq.alloc qq.size _).alloc AZ _).cell hb2l).trans Hx2'.out,(((qq.alloc qq.size _).alloc AZ _).cell hb2l).trans Hx3.out,(((qq.alloc qq.size _).alloc AZ _).cell hb2l).trans Hx4.out⟩
    | with_reducible exact⟨((((((qq.setCell (show W2.heap.size≤_ from AZ) _).setCell (show W2.heap.size≤_ from AZ) _).setCell (show W2.heap.size≤_ from AZ) _).setCell (show W2.heap.size≤_ from AZ) _).setCell (show W2.heap.size≤_ from AZ) _).cell hb2l).trans Hx0.out,((((((qq.setCell (show W2.heap.size≤_ from AZ) _).setCell (show W2.heap.size≤_ from AZ) _).setCell (show W2.heap.size≤_ from AZ) _).setCell (show W2.heap.size≤_ from AZ) _).setCell (show W2.heap.size≤_ from AZ) _).cell hb2l).trans Hx1.out,((((((qq.setCell (show W2.heap.size≤_ from AZ) _).setCell (show W2.heap.size≤_ from AZ) _).setCell (show W2.heap.size≤_ from AZ) _).setCell (show W2.heap.size≤_ from AZ) _).setCell (show W2.heap.size≤_ from AZ) _).cell hb2l).trans Hx2'.out,((((((qq.setCell (show W2.heap.size≤_ from AZ) _).setCell (show W2.heap.size≤_ from AZ) _).setCell (show W2.heap.size≤_ from AZ) _).setCell (show W2.heap.size≤_ from AZ) _).setCell (show W2.heap.size≤_ from AZ) _).cell hb2l).trans Hx3.out,((((((qq.setCell (show W2.heap.size≤_ from AZ) _).setCell (show W2.heap.size≤_ from AZ) _).setCell (show W2.heap.size≤_ from AZ) _).setCell (show W2.heap.size≤_ from AZ) _).setCell (show W2.heap.size≤_ from AZ) _).cell hb2l).trans Hx4.out⟩
    | go_keep)
    (first
     | (refine dJ5 acR_stays acR_one (S:=All) _ rfl (.const (.slice none 0 0)) (.tmp 35) _ rfl _ 38 i0 _ 4 48 Tryz.underlying25 hi0 hz0 hz1 hz2 hz3 ZD9 (.slice none 0 0) [] ?hs (Own.nil _ _ _) VA xs.length vc xs rfl ?hx ?hsrc ?h63 ?hby zn ?_;(case hs=>(simp[Act.eval,Act.put]));(case hx=>(simp[Act.eval,Act.put]));(case hsrc=>exact (HY2.out.below acR_stays BX).less acR_stays fun b _ _=>⟨trivial,nofun⟩);(case h63=>(simp only[maxLen,List.length_nil];omega));(case hby=>(simp only[List.length_nil];omega));intro v1 y1 hown1 hb1 hg1 hat1;rw[List.nil_append] at hown1;obtain⟨V1,c1,rfl⟩:=aP6 hown1;have Hown1:=zh hown1;have qq:=Below.next (show Below W2.heap.size W2 _ from BX) hb1 AZ;have hq0:=hb1.size;(try simp at hq0);have hq1:=qq.size;(first|(have Hzb:=zh ((hb1.block _ AU).trans (aK W2 #[.bool false,.int .i64 0,.int .i64 0,.slice none 0 0,.slice none 0 0] 34)))|skip);clear hown1 hb1 hg1 hat1)
     | (go_at_call 13;(with_reducible refine (HAsk.out _ N1 K1 nc kc ?hT ?h1 ?h2).mono ?_);(case hT=>(refine HH.out.below (hbA.next ?_ hlA);exact BX));(case h1=>(refine HN2.out.bbelow ?_;exact BX));(case h2=>(refine HK2.out.bbelow ?_;exact BX));rintro e3 y3 ⟨A3,c3,rfl,hc3,hs3,hb3⟩;have S3:=zh (hs3.blo (show y1.heap.size≤_ from AZ));have qq:=Below.next (show Below W2.heap.size W2 _ from BX) hb3 AZ;have hq3:=qq.size;have q13:=Below.next (show Below y1.heap.size y1 _ from BX) hb3 AZ;have hq13:=q13.size;(first|(have Hzb:=zh ((hb3.block _ (Array.getElem?_eq_some_iff.1 Hzb.out).1).trans Hzb.out))|(have Hzb:=zh ((hb3.block _ AU).trans (aK y1 #[.bool false,.int .i64 0,.int .i64 0,.slice none 0 0,.slice none 0 0] 34)))|skip);clear hs3 hb3)
     | (refine dJ5 acR_stays acR_one (S:=All) _ rfl (.tmp 36) (.tmp 39) _ rfl _ 38 i0 _ 4 48 Tryz.underlying25 hi0 hz0 hz1 hz2 hz3 ZD9 (.slice V1 xs.length c1) xs ?hs (Hown1.out.below acR_stays BX) _ 1 1 [(⟨1,((0:Nat):Int),0,d⟩:Ac)] rfl rfl ?hsrc ?h63 ?hby AZ ?_;(case hs=>(simp[Act.eval,Act.put]));(case hsrc=>exact sl_one _ _ [.int .i64 1,.int .i64 0,.int .i64 0,.slice A3 d.length c3] _ (by first|exact aK _ _ _|exact (aM6 _ _ _).2.1|exact (aB9 _ _ AZ).trans (aK _ _ _)) rfl _ ⟨A3,c3,rfl,hc3,(S3.out.bbelow BX).bless fun b _ h=>⟨trivial,Hown1.out.apart _ zn b h⟩⟩ ⟨trivial,Hown1.out.apart _ zn _ (show y1.heap.size≤_ from AZ)⟩);(case h63=>(simp only[maxLen,List.length_cons,List.length_nil];omega));(case hby=>(simp only[List.length_cons,List.length_nil];omega));intro v5 y5 hown5 hb5 hg5 hat5;obtain⟨V5,c5,rfl,hvc5,hsl5⟩:=hown5.slices acR_stays;have HX5:=zh (hsl5.z acR_stays);have qq:=Below.trans (show Below W2.heap.size W2 _ from BX) (hb5.mono AZ);have hq5:=qq.size;(first|(have Hzb:=zh ((hb5.block _ AU).trans ((aB9 _ _ (Array.getElem?_eq_some_iff.1 Hzb.out).1).trans Hzb.out)))|(have Hzb:=zh ((hg5.block _ (Nat.lt_of_lt_of_le (Array.getElem?_eq_some_iff.1 Hzb.out).1 AU) (fun e=>Hown1.out.apart _ zn _ (show y1.heap.size≤_ from AZ) e.symm)).trans ((aB9 _ _ (Array.getElem?_eq_some_iff.1 Hzb.out).1).trans Hzb.out)))|(have Hzb:=zh ((hg5.block _ AU (fun e=>Hown1.out.apart _ zn _ (show y1.heap.size≤_ from AZ) e.symm)).trans ((aB9 _ _ AU).trans (aK y3 #[.bool false,.int .i64 0,.int .i64 0,.slice none 0 0,.slice none 0 0] 34))))|(have Hzb:=zh ((hg5.block _ AU (fun e=>Hown1.out.apart _ zn _ (show y1.heap.size≤_ from AZ) e.symm)).trans ((aM6 y3 _ (.cells #[.bool false,.int .i64 0,.int .i64 0,.slice none 0 0,.slice none 0 0] 34)).2.1)))|skip);clear hown5 hb5 hg5 hat5 hsl5 hvc5)
     | (go_at_call 12;(with_reducible refine (HRb.out _ V5 _ c5 ?hn ?hT ?hH ?ha).mono ?_);(case hn=>simp);(case hT=>(refine HT.out.below (hbA.next ?_ hlA);exact BX));(case hH=>(refine HH.out.below (hbA.next ?_ hlA);exact BX));(case ha=>(refine HX5.out.below acR_stays ?_;exact BX));rintro e6 y6 ⟨F6,f6,R6,r6,rfl,s6,p6,v6,hb6⟩;have S6:=zh s6;have P6:=zh p6;have V6:=zh v6;have qq:=Below.next (show Below W2.heap.size W2 _ from BX) hb6 AZ;have hq6:=qq.size;(first|(have Hzk:=zh (Array.getElem?_eq_some_iff.1 Hzb.out).1;have Hzb:=zh ((hb6.block _ (Array.getElem?_eq_some_iff.1 Hzb.out).1).trans Hzb.out))|(have Hzb:=zh ((hb6.block y5.heap.size AU).trans (aK y5 #[.bool false,.int .i64 0,.int .i64 0,.slice none 0 0,.slice none 0 0] 34)))|skip);(first|(have z0:=aA (cs:=[.bool false,.int .i64 0,.int .i64 0,.slice none 0 0,.slice none 0 0]) Hzb.out 0;have zf0:=aD (cs:=[.bool false,.int .i64 0,.int .i64 0,.slice none 0 0,.slice none 0 0]) Hzb.out 0;have z1:=aA (cs:=[.bool false,.int .i64 0,.int .i64 0,.slice none 0 0,.slice none 0 0]) Hzb.out 1;have zf1:=aD (cs:=[.bool false,.int .i64 0,.int .i64 0,.slice none 0 0,.slice none 0 0]) Hzb.out 1;have z2:=aA (cs:=[.bool false,.int .i64 0,.int .i64 0,.slice none 0 0,.slice none 0 0]) Hzb.out 2;have zf2:=aD (cs:=[.bool false,.int .i64 0,.int .i64 0,.slice none 0 0,.slice none 0 0]) Hzb.out 2;have z3:=aA (cs:=[.bool false,.int .i64 0,.int .i64 0,.slice none 0 0,.slice none 0 0]) Hzb.out 3;have zf3:=aD (cs:=[.bool false,.int .i64 0,.int .i64 0,.slice none 0 0,.slice none 0 0]) Hzb.out 3;have z4:=aA (cs:=[.bool false,.int .i64 0,.int .i64 0,.slice none 0 0,.slice none 0 0]) Hzb.out 4;have zf4:=aD (cs:=[.bool false,.int .i64 0,.int .i64 0,.slice none 0 0,.slice none 0 0]) Hzb.out 4;simp only[List.getElem?_cons_zero,List.getElem?_cons_succ] at z0 z1 z2 z3 z4)|skip);clear s6 p6 v6 hb6))
   all_goals
    go_wp2_with fail
    go_meet
    first
     | with_reducible exact⟨_,_,_,_,_,rfl,rfl,told_new (u:=u) (tn:=tn) (pd:=pd) (f:=f6) (r:=r6) qq S6.out V6.out⟩
     | with_reducible exact⟨_,_,_,_,_,rfl,rfl,dJ9 (nb:=y5.heap.size) (u:=u) (tn:=tn) (pd:=pd) (f:=f6) (r:=r6) qq S6.out P6.out V6.out Hzb.out ZG5 AZ⟩
     | with_reducible exact⟨_,_,_,_,_,rfl,rfl,dJ9 (nb:=(y3.heap.size+1)) (u:=u) (tn:=tn) (pd:=pd) (f:=f6) (r:=r6) qq S6.out P6.out V6.out Hzb.out ZG5 AZ⟩
     | with_reducible exact⟨_,_,_,_,_,rfl,rfl,dJ9 (nb:=y3.heap.size) (u:=u) (tn:=tn) (pd:=pd) (f:=f6) (r:=r6) qq S6.out P6.out V6.out Hzb.out ZG5 AZ⟩
     | with_reducible exact⟨_,_,_,_,_,rfl,rfl,dJ9 (nb:=y1.heap.size) (u:=u) (tn:=tn) (pd:=pd) (f:=f6) (r:=r6) qq S6.out P6.out V6.out Hzb.out ZG5 AZ⟩
     | with_reducible exact⟨_,_,_,_,_,rfl,rfl,dJ9 (nb:=W2.heap.size) (u:=u) (tn:=tn) (pd:=pd) (f:=f6) (r:=r6) qq S6.out P6.out V6.out Hzb.out ZG5 AZ⟩
  case rest =>
   obtain⟨nb,F6,f6,R6,r6,rfl,rfl,HTd⟩:=hcut
   obtain⟨WF,rfl⟩:∃ WF,WF=wc:=⟨wc,rfl⟩
   obtain⟨hqF,hbF,hfF,rb,ro,V,v,P,pn,Q,qn,sa,sn,K,kn,X,xn,sb,sm,K',kn',X',xn',hR6,hrlt,hcs,hval⟩:=HTd
   subst hR6
   clear HY2
   have n4:=aA (cs:=[.bool u,.int .i64 tn,.int .i64 pd,.slice F6 fo.length f6,.slice (some ⟨rb,ro,none⟩) (rl.length+1) r6]) hbF 4
   have n2:=aA (cs:=[.bool u,.int .i64 tn,.int .i64 pd,.slice F6 fo.length f6,.slice (some ⟨rb,ro,none⟩) (rl.length+1) r6]) hbF 2
   have n1:=aA (cs:=[.bool u,.int .i64 tn,.int .i64 pd,.slice F6 fo.length f6,.slice (some ⟨rb,ro,none⟩) (rl.length+1) r6]) hbF 1
   have n3:=aA (cs:=[.bool u,.int .i64 tn,.int .i64 pd,.slice F6 fo.length f6,.slice (some ⟨rb,ro,none⟩) (rl.length+1) r6]) hbF 3
   simp only[List.getElem?_cons_zero,List.getElem?_cons_succ] at n1 n2 n3 n4
   have w0:=hcs 0 AO
   have w1:=hcs 1 AO
   have w2:=hcs 2 AO
   have w3:=hcs 3 AO
   have w4:=hcs 4 AO
   have w5:=hcs 5 AO
   have w6:=hcs 6 AO
   have w7:=hcs 7 AO
   have w8:=hcs 8 AO
   have w9:=hcs 9 AO
   have w10:=hcs 10 AO
   have w11:=hcs 11 AO
   have w12:=hcs 12 AO
   have w13:=hcs 13 AO
   have w14:=hcs 14 AO
   simp only[dE6,Nat.add_zero,List.getElem?_cons_zero,List.getElem?_cons_succ] at w0 w1 w2 w3 w4 w5 w6 w7 w8 w9 w10 w11 w12 w13 w14
   have hA:=HB2.out.below hqF
   obtain⟨a0,a1,a2,a3,a4⟩:=hA.cells
   have hbxF:=(hqF.block bx hb2l).trans Hx2.out
   have m1:=aA (cs:=[.int .i64 8,.slice N1 nm.length nc,.slice K1 kk.length kc,.slice none 0 0,.slice none 0 0]) hbxF 1
   have m2:=aA (cs:=[.int .i64 8,.slice N1 nm.length nc,.slice K1 kk.length kc,.slice none 0 0,.slice none 0 0]) hbxF 2
   simp only[List.getElem?_cons_zero,List.getElem?_cons_succ] at m1 m2
   dsimp only at a0 a1 a2 a3 a4
   have k1:(((rl.length+1:Nat):Int) != (rl.length:Int)+1)=false:=by simp
   have k1':((rl.length:Int)+1 != (rl.length:Int)+1)=false:=by simp
   have k2:(rl.length:Int)<((rl.length+1:Nat):Int):=by omega
   have k2':(rl.length:Int)<(rl.length:Int)+1:=by omega
   have k3:(0:Int)≤(rl.length:Int):=by omega
   have k4:(rl.length:Int)≤60:=by omega
   have FA:=zh (hA.fo.z tenR_stays)
   have FB:=zh hfF
   have HV:=zh hval
   have lA:=hA.lt
   have lB:=(Array.getElem?_eq_some_iff.1 hbF).1
   have lX:=(Array.getElem?_eq_some_iff.1 hbxF).1
   have HNF:=zh (HN2.out.bbelow hqF)
   have HKF:=zh (HK2.out.bbelow hqF)
   have HbF:=zh (hbA.next hqF hlA)
   dsimp only at FA
   clear hcs hfF hval hqF hbF hA hbxF HB2 qq HN2 HK2 hlA hrlt hbA Hx0 Hx1 Hx2' Hx3 Hx4 Hx2 hb2l
   go_upto_region 14 with fail
   have hbx:=aK WF #[.int .i64 p.session,.int .i64 p.code,.int .i64 p.turn,.bool p.found,.slice V p.value.length v,.slice P p.pairs.length pn,.slice Q p.root.length qn,.bool p.outer.empty,.slice sa p.outer.steps.length sn,.slice K p.outer.pair.1.length kn,.slice X p.outer.pair.2.length xn,.bool p.inner.empty,.slice sb p.inner.steps.length sm,.slice K' p.inner.pair.1.length kn',.slice X' p.inner.pair.2.length xn'] 48
   have hwa:=(Below.refl WF.heap.size WF).alloc zn (.cells #[.int .i64 p.session,.int .i64 p.code,.int .i64 p.turn,.bool p.found,.slice V p.value.length v,.slice P p.pairs.length pn,.slice Q p.root.length qn,.bool p.outer.empty,.slice sa p.outer.steps.length sn,.slice K p.outer.pair.1.length kn,.slice X p.outer.pair.2.length xn,.bool p.inner.empty,.slice sb p.inner.steps.length sm,.slice K' p.inner.pair.1.length kn',.slice X' p.inner.pair.2.length xn'] 48)
   have d1:=aA (cs:=[.int .i64 p.session,.int .i64 p.code,.int .i64 p.turn,.bool p.found,.slice V p.value.length v,.slice P p.pairs.length pn,.slice Q p.root.length qn,.bool p.outer.empty,.slice sa p.outer.steps.length sn,.slice K p.outer.pair.1.length kn,.slice X p.outer.pair.2.length xn,.bool p.inner.empty,.slice sb p.inner.steps.length sm,.slice K' p.inner.pair.1.length kn',.slice X' p.inner.pair.2.length xn']) hbx 1
   have d3:=aA (cs:=[.int .i64 p.session,.int .i64 p.code,.int .i64 p.turn,.bool p.found,.slice V p.value.length v,.slice P p.pairs.length pn,.slice Q p.root.length qn,.bool p.outer.empty,.slice sa p.outer.steps.length sn,.slice K p.outer.pair.1.length kn,.slice X p.outer.pair.2.length xn,.bool p.inner.empty,.slice sb p.inner.steps.length sm,.slice K' p.inner.pair.1.length kn',.slice X' p.inner.pair.2.length xn']) hbx 3
   have d4:=aA (cs:=[.int .i64 p.session,.int .i64 p.code,.int .i64 p.turn,.bool p.found,.slice V p.value.length v,.slice P p.pairs.length pn,.slice Q p.root.length qn,.bool p.outer.empty,.slice sa p.outer.steps.length sn,.slice K p.outer.pair.1.length kn,.slice X p.outer.pair.2.length xn,.bool p.inner.empty,.slice sb p.inner.steps.length sm,.slice K' p.inner.pair.1.length kn',.slice X' p.inner.pair.2.length xn']) hbx 4
   simp only[List.getElem?_cons_zero,List.getElem?_cons_succ] at d1 d3 d4
   have g0:=(hwa.cell (p:=⟨b2,0,none⟩) lA).trans a0
   have g1:=(hwa.cell (p:=⟨b2,1,none⟩) lA).trans a1
   have g2:=(hwa.cell (p:=⟨b2,2,none⟩) lA).trans a2
   have g3:=(hwa.cell (p:=⟨b2,3,none⟩) lA).trans a3
   have o1:=(hwa.cell (p:=⟨_,1,none⟩) lB).trans n1
   have o2:=(hwa.cell (p:=⟨_,2,none⟩) lB).trans n2
   have o3:=(hwa.cell (p:=⟨_,3,none⟩) lB).trans n3
   have q1:=(hwa.cell (p:=⟨bx,1,none⟩) lX).trans m1
   have q2:=(hwa.cell (p:=⟨bx,2,none⟩) lX).trans m2
   have FA2:=zh (FA.out.below tenR_stays hwa)
   have FB2:=zh (FB.out.below tenR_stays hwa)
   have HV2:=zh (HV.out.bbelow hwa)
   have HN3:=zh (HNF.out.bbelow hwa)
   have HK3:=zh (HKF.out.bbelow hwa)
   have HbG:=zh (HbF.out.alloc HbF.out.size (.cells #[.int .i64 p.session,.int .i64 p.code,.int .i64 p.turn,.bool p.found,.slice V p.value.length v,.slice P p.pairs.length pn,.slice Q p.root.length qn,.bool p.outer.empty,.slice sa p.outer.steps.length sn,.slice K p.outer.pair.1.length kn,.slice X p.outer.pair.2.length xn,.bool p.inner.empty,.slice sb p.inner.steps.length sm,.slice K' p.inner.pair.1.length kn',.slice X' p.inner.pair.2.length xn'] 48))
   have lA2:=Nat.lt_of_lt_of_le lA hwa.size
   have lB2:=Nat.lt_of_lt_of_le lB hwa.size
   have lG:=(Array.getElem?_eq_some_iff.1 hbx).1
   obtain⟨WG,hWG⟩:∃ WG,WG=WF.alloc (.cells #[.int .i64 p.session,.int .i64 p.code,.int .i64 p.turn,.bool p.found,.slice V p.value.length v,.slice P p.pairs.length pn,.slice Q p.root.length qn,.bool p.outer.empty,.slice sa p.outer.steps.length sn,.slice K p.outer.pair.1.length kn,.slice X p.outer.pair.2.length xn,.bool p.inner.empty,.slice sb p.inner.steps.length sm,.slice K' p.inner.pair.1.length kn',.slice X' p.inner.pair.2.length xn'] 48):=⟨_,rfl⟩
   rw[← hWG] at d1 d3 d4 g0 g1 g2 g3 o1 o2 o3 q1 q2 FA2 FB2 HV2 HN3 HK3 HbG lA2 lB2 lG ⊢
   obtain⟨gn,hgn⟩:∃ gn,gn=WF.heap.size:=⟨_,rfl⟩
   rw[← hgn] at d1 d3 d4 lG ⊢
   clear hbx hwa hWG hgn FA FB HV HNF HKF HbF w0 w1 w2 w3 w4 w5 w6 w7 w8 w9 w10 w11 w12 w13 w14 a0 a1 a2 a3 a4 n1 n2 n3 n4 m1 m2 lA lB lX k1 k1' k2 k2' k3
   obtain⟨gf,gv,hgf⟩:∃ gf gv,aA7 fo nm kk=((gf,gv),0):=⟨_,_,Prod.ext rfl HGet.out⟩
   have hcc:=Hcs.out
   rw[hgf] at hcc
   dsimp only at hcc
   rcases hcc with ⟨hu,hc⟩|⟨hu,hc,hd,he⟩
   ·subst hu
    rw[hc] at d1
    clear d3 d4 g1 g2 g3 o1 o2 o3 q1 q2
    go_wp2
    go_ret
    exact⟨rfl,HbG.out⟩
   ·subst hu
    rw[hc] at d1
    rw[hd] at d3
    rw[he] at d4 HV2
    have Hgf:=zh hgf
    clear hgf hc hd he
    go_upto_region 17 with (go_at_call 14;(with_reducible refine (aW2 _ F2 fo f2 N1 nm nc K1 kk kc ?h1 ?h2 ?h3).mono ?_);(case h1=>exact FA2.out);(case h2=>exact HN3.out);(case h3=>exact HK3.out);rw[Hgf.out];rintro e9 y9 ⟨A9,c9,rfl,hs9,hb9⟩;have S9:=zh hs9;have Hb9:=zh hb9;clear hs9 hb9)
    have hwy:=Hb9.out.alloc Hb9.out.size (.cells #[.bool gf,.slice A9 gv.length c9] 50)
    have hwz:=(Below.refl y9.heap.size y9).alloc zn (.cells #[.bool gf,.slice A9 gv.length c9] 50)
    have hbz:=aK y9 #[.bool gf,.slice A9 gv.length c9] 50
    have t0:=aA (cs:=[.bool gf,.slice A9 gv.length c9]) hbz 0
    have t1:=aA (cs:=[.bool gf,.slice A9 gv.length c9]) hbz 1
    simp only[List.getElem?_cons_zero,List.getElem?_cons_succ] at t0 t1
    have s0:=(hwy.cell (p:=⟨b2,0,none⟩) lA2).trans g0
    have s1:=(hwy.cell (p:=⟨b2,1,none⟩) lA2).trans g1
    have s2:=(hwy.cell (p:=⟨b2,2,none⟩) lA2).trans g2
    have s3:=(hwy.cell (p:=⟨b2,3,none⟩) lA2).trans g3
    have s4:=(hwy.cell (p:=⟨nb,1,none⟩) lB2).trans o1
    have s5:=(hwy.cell (p:=⟨nb,2,none⟩) lB2).trans o2
    have s6:=(hwy.cell (p:=⟨nb,3,none⟩) lB2).trans o3
    have s7:=(hwy.cell (p:=⟨gn,1,none⟩) lG).trans d1
    have s8:=(hwy.cell (p:=⟨gn,3,none⟩) lG).trans d3
    have s9:=(hwy.cell (p:=⟨gn,4,none⟩) lG).trans d4
    have hv1:=bE2 (HV2.out.bbelow hwy) 27 9 5 v Tryz.underlying27 Tryz.underlying5 Tryz.underlying9
    have hv2:=bE2 (S9.out.bbelow hwz) 27 9 5 c9 Tryz.underlying27 Tryz.underlying5 Tryz.underlying9
    have FA3:=zh (FA2.out.below tenR_stays hwy)
    have FB3:=zh (FB2.out.below tenR_stays hwy)
    have HbZ:=zh (HbG.out.next hwy HbG.out.size)
    have hbig:fo.length≤big:=by unfold big;omega
    obtain⟨WZ,hWZ⟩:∃ WZ,WZ=y9.alloc (.cells #[.bool gf,.slice A9 gv.length c9] 50):=⟨_,rfl⟩
    rw[← hWZ] at t0 t1 s0 s1 s2 s3 s4 s5 s6 s7 s8 s9 hv1 hv2 FA3 FB3 HbZ ⊢
    obtain⟨zn,hzn⟩:∃ zn,zn=y9.heap.size:=⟨_,rfl⟩
    rw[← hzn] at t0 t1 ⊢
    clear hwy hwz hbz hWZ hzn g0 g1 g2 g3 o1 o2 o3 d1 d3 d4 q1 q2 FA2 FB2 HV2 S9 HN3 HK3 HbG lA2 lB2 lG Hb9
    go_wp2_with (go_at_call 15;refine (SameForestK_ok _ F2 F6 fo f2 f6 FA3.out FB3.out hbig).mono ?_;rintro e17 u17 ⟨rfl,hb17⟩)
    go_ret
    exact⟨rfl,HbZ.out.next hb17 HbZ.out.size⟩
theorem dK1 (w:World) (hT:bD w) (hH:bL w) {A:Option Addr} {l:List Gr} {c:Nat} (h:Grs All w A l∧l.length≤big) {cl:List Value} {g:Gr} (hg:GrR All w cl g) :
  Calls Tryz.prog 3 #[.slice A l.length c,.agg ⟨cl⟩] w (bQ w (.bool true)):=by
 obtain⟨rfl,h1,_,h3,h4,h5⟩:=hg
 exact dK0 w hT hH A l c h.1 h.2 g h1 h3 h4 h5
end Go.Proofs.YtodopbnhkkkcbaaGreatDoor
