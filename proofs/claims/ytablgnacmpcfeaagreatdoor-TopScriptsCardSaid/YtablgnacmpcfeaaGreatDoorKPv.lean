/- Pv: Walks: proof.parted, by its closure and IndexFunc over it. Pairs that rise, of which each may be. The way of a key down the pairs, in plain words; proof.own. Walk: proof.Prove. Walk: canopyref.ProofOf. The law ProofProves: its walk. The conditions of each are in its words. -/
import Derived.Test.YtablgnacmpcfeaaGreatDoorKRootR
import Derived.Test.YtablgnacmpcfeaaGreatDoorKPath
import Derived.Test.YtablgnacmpcfeaaGreatDoorKTrees
import Derived.Test.YtablgnacmpcfeaaGreatDoorKForestW
import Derived.Test.YtablgnacmpcfeaaGreatDoorKRoot
namespace Go.Proofs.YtablgnacmpcfeaaGreatDoor
open Go.RowKit
set_option linter.unusedVariables false
set_option linter.unusedSimpArgs false
set_option maxRecDepth 100000
set_option maxHeartbeats 8000000
theorem cS2 (w:World) (g:Nat) (A B:Option Addr) (p:Pr) (a b d:Nat) (ha:Bs All w A p.1) (hk:aE p.1=0) (hd:d<145) (hg:w.heap[g]?=some (.cells #[.int .i64 (d:Int)] 3 (0,0))) :
  Calls Tryz.prog 282 #[.agg #[.slice A p.1.length a,.slice B p.2.length b],.pointer (some ⟨g,0,none⟩)] w (bQ w (.bool (bP p.1 d))):=by
 have Ha:=zh ha
 have q0:w.cell? ⟨g,0,none⟩=some (.int .i64 (d:Int)):=aA (cs:=[.int .i64 (d:Int)]) hg 0
 have hlt:g<w.heap.size:=(Array.getElem?_eq_some_iff.1 hg).1
 have Hb:=zh (cA9 hk hd)
 clear hg ha
 go_enter Tryz.func282,Tryz.ntmps282
 go_wp2_with (go_at_call 258;(with_reducible refine (aR7 _ A p.1 a d ?ha).mono ?_);(case ha=>(refine Ha.out.bbelow ?_;exact BX));rintro e w1 ⟨rfl,hb1⟩;rw[Hb.out])
 go_ret
 exact⟨rfl,Below.next BX hb1 ZH2⟩
theorem pidx_ok (w:World) (A:Option Addr) (l:List Pr) (n g d:Nat) (ha:Ps All w A l) (hp:Parts l d) (h2:2≤l.length) (h60:l.length≤60) (ht:aT6 l) (hg:w.heap[g]?=some (.cells #[.int .i64 (d:Int)] 3 (0,0))) :
  Calls Tryz.prog 281 #[.slice A l.length n,.func (.func 282) #[] #[.pointer (some ⟨g,0,none⟩)]] w (bQ w (.int .i64 ((aU l:Nat):Int))):=by
 obtain⟨hn1,hn2,hbit⟩:=aW9 hp h2
 have Hbit:=zh hbit
 have Ht:=zh ht
 have Ha:=zh ha
 have Hg:=zh hg
 have hgl:g<w.heap.size:=(Array.getElem?_eq_some_iff.1 hg).1
 have Hd:=zh (show d<145 by have:=hp.d144;omega)
 clear hbit ha hp ht hg
 go_enter Tryz.func281,Tryz.ntmps281
 go_wp2
 go_loopw [8] (fun i wr=>∃ k:Nat,k≤aU l∧i=.int .i64 k∧Below w.heap.size w wr) (fun i _=>l.length - (intOf i).toNat)
 case atStart=>exact⟨0,AO,rfl,Below.refl _ _⟩
 case round =>
  obtain⟨k,hk,rfl,hbel⟩:=hrel
  have Hbel:=zh hbel
  have hbz:=hbel.size
  clear hbel
  have hlt:k<l.length:=by omega
  have Hlt:=zh hlt
  have hki:(k:Int)<(l.length:Int):=by omega
  have mk:IntKind.i64.wrap ((k:Int)+1)=(k:Int)+1:=IntWalk.i64_in _ AO
  obtain⟨g2,off,K,c,V,c',rfl,_,hal,q0,q1,hs1,hs2,_,_⟩:=aE3 (Ha.out.below pairR_stays Hbel.out) hlt
  have Hs1:=zh hs1.bz
  have Hk:=zh (Ht.out.key _ (List.getElem_mem hlt))
  have Hbt:=zh (Hbit.out k hlt)
  generalize l[k]=x at *
  clear hs1 hs2
  by_cases hl:k<aU l
  ·have Hf:=zh (show bP x.1 d=false by rw[Hbt.out];simp;omega)
   have Hl:=zh hl
   clear hl
   go_wp2_with (go_at_call 282;refine (cS2 _ g K V x c c' d Hs1.out Hk.out Hd.out ((Hbel.out.block _ hgl).trans Hg.out)).mono ?_;rintro e w1 ⟨rfl,hb1⟩;rw[Hf.out])
   go_roundw
   case rel=>exact⟨k+1,Hl.out,by go_num,Hbel.out.next hb1 hbz⟩
   case measure=>have hq:=Hlt.out;simp[intOf];omega
  ·obtain rfl:k=aU l:=by omega
   have Hf:=zh (show bP x.1 d=true by rw[Hbt.out];simp)
   clear hl
   go_wp2_with (go_at_call 282;refine (cS2 _ g K V x c c' d Hs1.out Hk.out Hd.out ((Hbel.out.block _ hgl).trans Hg.out)).mono ?_;rintro e w1 ⟨rfl,hb1⟩;rw[Hf.out])
   go_ret
   exact⟨rfl,Hbel.out.next hb1 hbz⟩
theorem bR3 (S0:Nat→Prop) (w:World) (A:Option Addr) (l:List Pr) (c d:Nat) (ha:Ps S0 w A l) (hp:Parts l d) (h2:2≤l.length) (h60:l.length≤60) (hc:l.length≤c) (ht:aT6 l) :
  Calls Tryz.prog 257 #[.slice A l.length c] w (RetCut S0 w d (l.take (aU l)) (l.drop (aU l))):=by
 obtain⟨hn1,hn2,_⟩:=aW9 hp h2
 have Hpt:=zh (cG1 hp ht h2)
 have Hidx:=zh (fun W g (hA:Ps All W A l) hg=>pidx_ok W A l c g d hA hp h2 h60 ht hg)
 have Ha:=zh ha
 obtain⟨g,off,K0,c0,V0,d0,rfl,_,hgl,q0,_,hs0,_,_,_⟩:=aE3 ha (show 0<l.length by omega)
 obtain⟨g',off',K1,c1,V1,d1,he,_,_,q1,_,hs1,_,_,_⟩:=aE3 ha (show l.length - 1<l.length by omega)
 cases he
 simp only[Nat.zero_mul,Nat.add_zero] at q0
 have Hs0:=zh hs0
 have Hs1:=zh hs1
 have mk:IntKind.i64.wrap ((l.length:Int) - 1)=((l.length - 1:Nat):Int):=by rw[IntWalk.i64_in _ AO];omega
 have hi0:(0:Int)<(l.length:Int):=by omega
 have hi1:((l.length - 1:Nat):Int)<(l.length:Int):=by omega
 have hj0:0<l.length:=by omega
 have hj1:l.length - 1<l.length:=by omega
 have Hax:=zh (show ∀ W,Below w.heap.size w W→Ps S0 W (some ⟨g,off,none⟩) (l.take (aU l)) from fun W hW=>by have:=SL.cut (Ha.out.below pairR_stays hW) 0 (aU l);simpa using this)
 have Hay:=zh (show ∀ W,Below w.heap.size w W→Ps S0 W (some ⟨g,off+aU l*2,none⟩) (l.drop (aU l)) from fun W hW=>by have:=SL.cut (Ha.out.below pairR_stays hW) (aU l) l.length;rw[List.take_of_length_le ZF5] at this;exact this)
 generalize hk:aU l=k at *
 have Hlx:=zh (show (l.take k).length=k by rw[List.length_take];omega)
 have Hly:=zh (show (l.drop k).length=l.length - k by rw[List.length_drop])
 generalize l.take k=x at *
 generalize l.drop k=y at *
 have hki:(k:Int)≤(l.length:Int):=by omega
 have hkc:(k:Int)≤(c:Int):=by omega
 have hlc:(l.length:Int)≤(c:Int):=by omega
 have hkn:k≤l.length:=by omega
 have hkm:k≤c:=by omega
 have Hcell:=zh (show ∀ W,Below w.heap.size w W→W.cell? ⟨g,off,none⟩=some (.slice K0 l[0].1.length c0)∧W.cell? ⟨g,off+(l.length - 1)*2,none⟩=some (.slice K1 l[l.length - 1].1.length c1) from fun W hW=>⟨(hW.cell hgl).trans q0,(hW.cell hgl).trans q1⟩)
 obtain⟨q0',q1'⟩:=Hcell.out (w.alloc (.cells #[.int .i64 0] 3)) ((Below.refl _ _).alloc zn _)
 clear ha hp ht hs0 hs1 hk q0 q1
 go_enter Tryz.func257,Tryz.ntmps257
 go_wp2_with fail
 go_region_held3 (fun w'=>w'.cell? ⟨g,off,none⟩=some (.slice K0 l[0].1.length c0)∧w'.cell? ⟨g,off+(l.length - 1)*2,none⟩=some (.slice K1 l[l.length - 1].1.length c1))
  (first
   | go_keep
   | exact Hcell.out _ hq1
   | exact Hcell.out _ (hq1.setCell zn _))
  ((go_at_call 280;(with_reducible refine (bJ7 _ K0 K1 _ _ c0 c1 ?h1 ?h2).mono ?_);(case h1=>exact (Hs0.out.bbelow (show Below w.heap.size w _ from BX)).bz);(case h2=>exact (Hs1.out.bbelow (show Below w.heap.size w _ from BX)).bz);rintro e w1 ⟨rfl,hb1⟩;rw[Hpt.out];have hq1:Below w.heap.size w w1:=(Below.next BX hb1 ZH2);have hgb:w1.heap[w.heap.size]?=some (.cells #[.int .i64 0] 3 (0,0)):=(hb1.block _ ZH2).trans (aK w _ _);have g0:w1.cell? ⟨w.heap.size,0,none⟩=some (.int .i64 0):=aA (cs:=[.int .i64 0]) hgb 0;have f0:w1.frozen? ⟨w.heap.size,0,none⟩=false:=aD (cs:=[.int .i64 0]) hgb 0;have hz1:w.heap.size<w1.heap.size:=(Array.getElem?_eq_some_iff.1 hgb).1))
 obtain⟨w2,hw2⟩:∃ w2,w1.setCell ⟨w.heap.size,0,none⟩ (.int .i64 (d:Int))=w2:=⟨_,rfl⟩
 have hq2:Below w.heap.size w w2:=by rw[← hw2];exact hq1.setCell zn _
 have hg2:w2.heap[w.heap.size]?=some (.cells #[.int .i64 (d:Int)] 3 (0,0)):=by rw[← hw2,heap_setCell_same _ _ _ _ _ _ hgb];rfl
 have hz2:w.heap.size<w2.heap.size:=(Array.getElem?_eq_some_iff.1 hg2).1
 rw[hw2]
 clear hw2 q0' q1' hb1 hgb g0 f0 hz1 hq1 mk hi0 hi1
 go_wp2_with (go_at_call 281;refine (Hidx.out _ _ (SL.z pairR_stays (Ha.out.below pairR_stays hq2)) hg2).mono ?_;rintro e3 w3 ⟨rfl,hb3⟩;have hq3:=hq2.next hb3 hq2.size;have hg3:=(hb3.block _ hz2).trans hg2;have g3:w3.cell? ⟨w.heap.size,0,none⟩=some (.int .i64 (d:Int)):=aA (cs:=[.int .i64 (d:Int)]) hg3 0;have f3:w3.frozen? ⟨w.heap.size,0,none⟩=false:=aD (cs:=[.int .i64 (d:Int)]) hg3 0;have hz3:w.heap.size<w3.heap.size:=(Array.getElem?_eq_some_iff.1 hg3).1)
 go_region
 all_goals go_wp2
 obtain⟨w4,hw4⟩:∃ w4,(w3.setCell ⟨w.heap.size,0,none⟩ (.int .i64 (d:Int))).drew=w4:=⟨_,rfl⟩
 have hq4:Below w.heap.size w w4:=by rw[← hw4];exact (hq3.setCell zn _).drew
 have g4:w4.cell? ⟨w.heap.size,0,none⟩=some (.int .i64 (d:Int)):=by
  rw[← hw4]
  exact aA (w:=(w3.setCell ⟨w.heap.size,0,none⟩ (.int .i64 (d:Int))).drew) (cs:=[.int .i64 (d:Int)]) (show (w3.setCell ⟨w.heap.size,0,none⟩ (.int .i64 (d:Int))).heap[w.heap.size]?=some (.cells #[.int .i64 (d:Int)] 3 (0,0)) by rw[heap_setCell_same _ _ _ _ _ _ hg3];rfl) 0
 rw[hw4]
 refine bodyPost_ret (v:=.tuple #[.int .i64 (d:Int),.slice (some ⟨g,off,none⟩) k c,.slice (some ⟨g,off+k*2,none⟩) (l.length - k) (c - k)]) (by simp[results,Tryz.results257,go_sem,g4]) rfl ?_
 exact⟨some ⟨g,off,none⟩,c,some ⟨g,off+k*2,none⟩,c - k,by rw[Hlx.out,Hly.out],by rw[Hlx.out];omega,by rw[Hly.out];omega,Hax.out _ hq4,Hay.out _ hq4,hq4⟩
def aK8 (k:List UInt8):Nat→List Pr→List St × List Pr
 | 0,l=>([],l)
 | n+1,l=>if l.length≤1 then ([],l) else
  if bP k (aF1 l).toNat then (⟨aF1 l,true,bK (l.take (aU l))⟩ :: (aK8 k n (l.drop (aU l))).1,(aK8 k n (l.drop (aU l))).2)
  else (⟨aF1 l,false,bK (l.drop (aU l))⟩ :: (aK8 k n (l.take (aU l))).1,(aK8 k n (l.take (aU l))).2)
theorem bD9 (k:List UInt8) (n:Nat) (l:List Pr):aK8 k (n+1) l=if l.length≤1 then ([],l) else
  if bP k (aF1 l).toNat then (⟨aF1 l,true,bK (l.take (aU l))⟩ :: (aK8 k n (l.drop (aU l))).1,(aK8 k n (l.drop (aU l))).2)
  else (⟨aF1 l,false,bK (l.drop (aU l))⟩ :: (aK8 k n (l.take (aU l))).1,(aK8 k n (l.take (aU l))).2):=rfl
theorem path_one {k:List UInt8} {n:Nat} {l:List Pr} (h:l.length≤1):aK8 k n l=([],l):=by
 cases n with
 | zero=>rfl
 | succ n=>rw[bD9,if_pos h]
theorem cN2 {k:List UInt8} {n d:Nat} {l:List Pr} (hp:Parts l d) (h2:2≤l.length) (hb:bP k d=true):aK8 k (n+1) l=(⟨d,true,bK (l.take (aU l))⟩ :: (aK8 k n (l.drop (aU l))).1,(aK8 k n (l.drop (aU l))).2):=by
 rw[bD9,if_neg AO,hp.bit,if_pos (by simpa using hb)]
theorem cV3 {k:List UInt8} {n d:Nat} {l:List Pr} (hp:Parts l d) (h2:2≤l.length) (hb:bP k d=false):aK8 k (n+1) l=(⟨d,false,bK (l.drop (aU l))⟩ :: (aK8 k n (l.take (aU l))).1,(aK8 k n (l.take (aU l))).2):=by
 rw[bD9,if_neg AO,hp.bit,if_neg (by simp[hb])]
def pf0:Pf:=⟨false,[],([],[])⟩
def aH2 (l:List Pr) (k:List UInt8):Pf × Int :=
 if aD3 l k≠0 then (pf0,aD3 l k) else if l.length=0 then (⟨true,[],([],[])⟩,0) else (⟨false,(aK8 k l.length l).1,(aK8 k l.length l).2.getD 0 ([],[])⟩,0)
theorem cN3 {l:List Pr} (h:aT6 l) (h60:l.length≤60):aG l=0:=by
 refine (aE0 l).2 ⟨h60,fun p hp=>?_,h.rise⟩
 unfold aA5
 rw[if_neg (by have:=h.val p hp;omega)]
 exact h.key p hp
theorem bR4 {l:List Pr} (h:aT6 l) (h60:l.length≤60):bF5 l=(bK l,0):=by rw[bF5,if_pos (cN3 h h60)]
theorem cN4 (l:List Pr) (k:List UInt8):(aX7 l k).2=aD3 l k:=by
 by_cases h:aD3 l k=0
 ·rw[h]
  obtain⟨h1,h2⟩:=bL3 h
  unfold aX7
  rw[if_neg ZE3,if_neg (by simpa using h2)]
  split <;> rfl
 ·rw[getS_bad h]
def RetPfE (w:World) (r:Pf × Int) (e:Ending) (w':World):Prop :=
 ∃ A n K a V b,e=.returned (.tuple #[.agg #[.bool r.1.empty,.slice A r.1.steps.length n,.slice K r.1.pair.1.length a,.slice V r.1.pair.2.length b],.int .i64 r.2])∧Sts (aB w.heap.size) w' A r.1.steps∧Bs (aB w.heap.size) w' K r.1.pair.1∧Bs (aB w.heap.size) w' V r.1.pair.2∧Below w.heap.size w w'
def PvI (q:Bool) (k:List UInt8) (W0:World) (G:Nat) (SS:List St) (E:List Pr) (lv:Value) (wr:World):Prop :=
 ∃ (n:Nat) (l:List Pr) (A:Option Addr) (c:Nat) (acc:List St) (v:Value),lv=.slice A l.length c∧(q=true→l.length≤c)∧1≤l.length∧l.length≤60∧l.length≤n+1∧acc.length+l.length≤61∧aT6 l∧Ps (fun b=>b≠G∧v.ownBlock≠some b) wr A l∧acc++(aK8 k n l).1=SS∧(aK8 k n l).2=E ∧
  Own 3 StR (aB W0.heap.size) wr W0.heap.size 239 v acc∧wr.heap[G]?=some (.cells #[.bool false,v,.slice none 0 0,.slice none 0 0] 55 (0,0))∧Below G W0 wr
theorem cH5 (w:World) (A B:Option Addr) (p:Pr) (c d:Nat) (ha:Bs All w A p.1) (hb:Bs All w B p.2) (h1:p.1.length≤big) (h2:p.2.length≤big) :
  Calls Tryz.prog 259 #[.agg #[.slice A p.1.length c,.slice B p.2.length d]] w (cQ1 w p):=by
 have Ha:=zh ha
 have Hb:=zh hb
 clear ha hb
 go_enter Tryz.func259,Tryz.ntmps259
 go_wp2_with fail
 go_region_held3 (fun w'=>w'.cell? ⟨w.heap.size,0,none⟩=some (.slice A p.1.length c)∧w'.cell? ⟨w.heap.size,1,none⟩=some (.slice B p.2.length d))
  (first
   | go_keep
   | (go_split_ands;refine⟨(hb1.cell AU).trans ZF3,(hb1.cell AU).trans ZF3⟩)
   | (go_split_ands;refine⟨(hb2.cell ZD7).trans ZF3,(hb2.cell ZD7).trans ZF3⟩))
  (first
   | (go_at_call 49;(with_reducible refine (aE2 _ A p.1 c ?ha h1).mono ?_);(case ha=>(refine Ha.out.bbelow ?_;exact BE));rintro e w1 ⟨A1,c1,rfl,hs1,hb1⟩)
   | (go_at_call 49;(with_reducible refine (aE2 _ B p.2 d ?ha h2).mono ?_);(case ha=>(refine Hb.out.bbelow (Below.next ?_ hb1 AU);exact BE));rintro e w2 ⟨A2,c2,rfl,hs2,hb2⟩;have g0:w2.cell? ⟨w.heap.size+1,0,none⟩=some (.slice none 0 0):=(hb2.cell ZD7).trans ((hb1.cell AU).trans ZH2);have g1:w2.cell? ⟨w.heap.size+1,1,none⟩=some (.slice none 0 0):=(hb2.cell ZD7).trans ((hb1.cell AU).trans ZH2);have f0:w2.frozen? ⟨w.heap.size+1,0,none⟩=false:=(hb2.frozen ZD7).trans ((hb1.frozen AU).trans ZH2);have f1:w2.frozen? ⟨w.heap.size+1,1,none⟩=false:=(hb2.frozen ZD7).trans ((hb1.frozen AU).trans ZH2)))
 all_goals
  go_wp2
  refine bodyPost_ret (v:=.agg #[.slice A1 p.1.length c1,.slice A2 p.2.length c2]) (by simp[results,Tryz.results259,go_sem,g0,g1]) rfl ⟨A1,c1,A2,c2,rfl,?_,?_,?_⟩
  ·exact ZB3
  ·exact ZB5
  ·refine Below.setCell (Below.setCell (Below.next (Below.next ?_ hb1 AU) hb2 ZD7) AU _) AU _
   exact BE
theorem bR5 (w:World) (hT:bD w) (A:Option Addr) (l:List Pr) (c:Nat) (K:Option Addr) (k:List UInt8) (kc:Nat) (ha:Ps All w A l) (hk:Bs All w K k) (hc:l.length≤c) :
  Calls Tryz.prog 227 #[.slice A l.length c,.slice K k.length kc] w (RetPfE w (aH2 l k)):=by
 obtain⟨i0,hi0,hy0,hy1,hy2⟩:=info_parts info_st
 have HT:=zh hT
 have Ha:=zh ha
 have Hk:=zh hk
 clear hT ha hk
 obtain⟨gf,gv,ge,hget⟩:∃ gf gv ge,aX7 l k=((gf,gv),ge):=⟨_,_,_,rfl⟩
 have Hge:=zh (show ge=aD3 l k by rw[← cN4,hget])
 have Hget:=zh hget
 clear hget
 have Hz0:=zh (aK w #[.bool false,.slice none 0 0,.slice none 0 0,.slice none 0 0] 55)
 by_cases hf:aD3 l k=0
 ·have hge0:ge=0:=Hge.out.trans hf
  subst hge0
  by_cases h0:l.length=0
  ·have Hv:=zh (show aH2 l k=(⟨true,[],([],[])⟩,0) by rw[aH2,if_neg (by simpa using hf),if_pos h0])
   have hz:((l.length:Int)==0)=true:=by simp[h0]
   have hz':decide ((l.length:Int)=0)=true:=by simp[h0]
   clear hf h0
   go_enter Tryz.func227,Tryz.ntmps227
   go_wp2_with (go_at_call 52;(with_reducible refine (aV7 _ A l c K k kc ?h1 ?h2).mono ?_);(case h1=>(refine Ha.out.below pairR_stays ?_;exact BX));(case h2=>(refine Hk.out.bbelow ?_;exact BX));rw[Hget.out];rintro e1 w1 ⟨V1,v1,rfl,_,hb1⟩;have hq1:Below w.heap.size w w1:=(Below.next BX hb1 ZH2);have hx1:=(hb1.block w.heap.size ZH2).trans Hz0.out;have hlt1:w.heap.size<w1.heap.size:=(Array.getElem?_eq_some_iff.1 hx1).1;obtain⟨r0,r1,r2,r3,r4,r5,r6,r7⟩:=aF3 hx1)
   obtain⟨w2,hw2⟩:∃ w2,(((((w1.setCell ⟨w.heap.size,0,none⟩ (.bool true)).setCell ⟨w.heap.size,1,none⟩ (.slice none 0 0)).setCell ⟨w.heap.size,2,none⟩ (.slice none 0 0)).setCell ⟨w.heap.size,3,none⟩ (.slice none 0 0)).alloc (.cells #[.bool gf,.slice V1 gv.length v1] 81))=w2:=⟨_,rfl⟩
   have hz2:w2.heap[w.heap.size]?=some (.cells #[.bool true,.slice none 0 0,.slice none 0 0,.slice none 0 0] 55 (0,0)):=by
    rw[← hw2]
    rw[heap_alloc_old _ _ (by simpa using hlt1),heap_setCell_same _ _ _ _ _ _ (heap_setCell_same _ _ _ _ _ _ (heap_setCell_same _ _ _ _ _ _ (heap_setCell_same _ _ _ _ _ _ hx1)))]
    rfl
   have hb2:Below w.heap.size w w2:=by
    rw[← hw2]
    exact ((((hq1.setCell zn _).setCell zn _).setCell zn _).setCell zn _).alloc (by simpa using hq1.size) _
   rw[hw2]
   obtain⟨e0,e1,e2,e3,_⟩:=aF3 hz2
   refine bodyPost_ret (v:=.tuple #[.agg #[.bool true,.slice none 0 0,.slice none 0 0,.slice none 0 0],.int .i64 0]) (by simp[results,Tryz.results227,go_sem,e0,e1,e2,e3]) rfl ?_
   rw[Hv.out]
   exact⟨none,0,none,0,none,0,rfl,SL.nil,SL.nil,SL.nil,hb2⟩
  ·obtain⟨SS,E,hSE⟩:∃ SS E,aK8 k l.length l=(SS,E):=⟨_,_,rfl⟩
   have Hv:=zh (show aH2 l k=(⟨false,SS,E.getD 0 ([],[])⟩,0) by rw[aH2,if_neg (by simpa using hf),if_neg h0,hSE])
   obtain⟨hpf,hkf⟩:=bL3 hf
   have Hkf:=zh hkf
   have Ht:=zh (cA4 hpf)
   have H60:=zh (aG5 hpf).1
   have H1:=zh (show 1≤l.length by omega)
   have HSE:=zh hSE
   have hz:((l.length:Int)==0)=false:=by rw[beq_eq_false_iff_ne];omega
   have hz':decide ((l.length:Int)=0)=false:=decide_eq_false AO
   clear hf h0 hSE hpf hkf
   go_enter Tryz.func227,Tryz.ntmps227
   go_wp2_with (go_at_call 52;(with_reducible refine (aV7 _ A l c K k kc ?h1 ?h2).mono ?_);(case h1=>(refine Ha.out.below pairR_stays ?_;exact BX));(case h2=>(refine Hk.out.bbelow ?_;exact BX));rw[Hget.out];rintro e1 w1 ⟨V1,v1,rfl,_,hb1⟩;have hq1:Below w.heap.size w w1:=(Below.next BX hb1 ZH2);have hx1:=(hb1.block w.heap.size ZH2).trans Hz0.out;have hlt1:w.heap.size<w1.heap.size:=(Array.getElem?_eq_some_iff.1 hx1).1;obtain⟨r0,r1,r2,r3,r4,r5,r6,r7⟩:=aF3 hx1)
   obtain⟨W0,hW0⟩:∃ W0,((w1.alloc (.cells #[.bool gf,.slice V1 gv.length v1] 81)).alloc (.cells #[.bool false,.slice none 0 0,.slice none 0 0,.slice none 0 0] 55))=W0:=⟨_,rfl⟩
   have hGs:w1.heap.size+1+1=W0.heap.size:=by rw[← hW0];simp
   have hR0:W0.heap[w.heap.size]?=some (.cells #[.bool false,.slice none 0 0,.slice none 0 0,.slice none 0 0] 55 (0,0)):=by
    rw[← hW0,heap_alloc_old _ _ ZC8,heap_alloc_old _ _ hlt1]
    exact hx1
   have hG0:W0.heap[w1.heap.size+1]?=some (.cells #[.bool false,.slice none 0 0,.slice none 0 0,.slice none 0 0] 55 (0,0)):=by
    have:=heap_alloc_new (w1.alloc (.cells #[.bool gf,.slice V1 gv.length v1] 81)) (.cells #[.bool false,.slice none 0 0,.slice none 0 0,.slice none 0 0] 55)
    rw[← hW0]
    simpa using this
   have hb0:Below w.heap.size w W0:=by
    rw[← hW0]
    exact (hq1.alloc hq1.size _).alloc (by have:=hq1.size;simp;omega) _
   have hRG:w.heap.size<w1.heap.size+1:=by omega
   rw[hW0]
   have HR0:=zh hR0
   have HG0:=zh hG0
   have Hb0:=zh hb0
   clear hW0 hR0 hG0 hb0 hb1 hq1 hx1 r0 r1 r2 r3 r4 r5 r6 r7 hz hz'
   go_loopw [0] (fun lv wr=>PvI true k W0 (w1.heap.size+1) SS E lv wr) (fun lv _=>lenOf lv)
   case atStart =>
    refine⟨l.length,l,A,c,[],_,rfl,fun _=>hc,H1.out,H60.out,AO,by have:=H60.out;simp;omega,Ht.out,?_,?_,?_,Own.nil _ _ _,HG0.out,Below.refl _ _⟩
    ·refine ((Ha.out.less pairR_stays (S':=fun b=>b<w.heap.size) fun b hb _=>hb).same pairR_stays ⟨Hb0.out.size,fun b hb _=>Hb0.out.block b hb⟩).less pairR_stays fun b _ hb=>⟨AO,fun h=>by cases h⟩
    ·rw[HSE.out];rfl
    ·rw[HSE.out]
   case round =>
    obtain⟨n,l',A',c',acc,v,rfl,hcc0,hl1,hl60,hln,hal,htr,hps,hSS,hEE,hown,hbx,hbel⟩:=hrel
    have hcc:=hcc0 rfl
    have Hps:=zh hps
    have Hown:=zh hown
    have Hbx:=zh hbx
    have Hbel:=zh hbel
    have Htr:=zh htr
    have hzr:=hbel.size
    by_cases hlt:1<l'.length
    ·have hki:(1:Int)<(l'.length:Int):=by omega
     obtain⟨d,hp⟩:=htr.parts AO
     obtain⟨hn1,hn2,_⟩:=aW9 hp AO
     have Hpar:=zh (fun W hW=>bR3 (fun b=>b≠w1.heap.size+1∧v.ownBlock≠some b) W A' l' c' d hW hp AO hl60 hcc htr)
     have Hkb:=zh (cA9 Hkf.out (show d<145 by have:=hp.d144;omega))
     have Hd:=zh hp.d144
     obtain⟨m,rfl⟩:∃ m,n=m+1:=⟨n - 1,AO⟩
     have Htx:=zh (htr.take (aU l'))
     have Hty:=zh (htr.drop (aU l'))
     have Hlx:=zh (show (l'.take (aU l')).length=aU l' by rw[List.length_take];omega)
     have Hly:=zh (show (l'.drop (aU l')).length=l'.length - aU l' by rw[List.length_drop])
     have Hln:=zh (show 1≤aU l'∧aU l'≤l'.length - 1 from ⟨hn1,hn2⟩)
     rcases Bool.eq_false_or_eq_true (bP k d) with hb|hb
     ·rw[cN2 hp AO hb] at hSS hEE
      have Hb:=zh hb
      have HrO:=zh (bR4 Htx.out (by rw[Hlx.out];omega))
      have Hfin:=zh (show Hty=Hty from rfl)
      generalize hxx:l'.take (aU l')=x at *
      generalize hyy:l'.drop (aU l')=y at *
      generalize hkk:aU l'=kk at *
      have hzr':w1.heap.size+1<wr.heap.size:=by omega
      clear hxx hyy hkk Hfin hn1 hn2 hl1
      go_wp2_with (first
       | (go_at_call 257;(with_reducible refine (Hpar.out _ Hps.out).mono ?_);rintro e2 w2 ⟨X,cx,Y,cy,rfl,hcx,hcy,hsx,hsy,hb2⟩;have hz2:=hb2.size;have hg2:=(hb2.block (w1.heap.size+1) hzr').trans Hbx.out;have hw2:Below w.heap.size w w2:=(Hb0.out.trans (Hbel.out.mono AO)).next hb2 (by have:=Hb0.out.size;omega))
       | (go_at_call 258;(with_reducible refine (aR7 _ K k kc d ?h).mono ?_);(case h=>exact Hk.out.bbelow (hw2.alloc hw2.size _));rw[Hkb.out,Hb.out];rintro e3 w3 ⟨rfl,hb3⟩;have hs3:=(hb3.block w2.heap.size ZH2).trans (aK w2 _ _);obtain⟨s0,s1,s2,s3,s4,s5⟩:=box3p hs3;have hz3:w2.heap.size<w3.heap.size:=(Array.getElem?_eq_some_iff.1 hs3).1;have hg3:=(hb3.block (w1.heap.size+1) ZC8).trans ((heap_alloc_old _ _ AO).trans hg2);have hw3:Below w.heap.size w w3:=(hw2.alloc hw2.size _).next hb3 (by have:=hw2.size;simp;omega);have hsm3:aC (fun b=>b<w2.heap.size) w2 w3:=((aC.refl _ _).alloc _).trans (aC.of_below hb3);have hr3:Below wr.heap.size wr w3:=(hb2.alloc hz2 _).next hb3 ZC8)
       | (go_at_call 225;(with_reducible refine (aQ3 _ ?hT X x cx ?ha hcx).mono ?_);(case hT=>exact HT.out.below (hw3.setCell (by have:=hw2.size;simp only[];omega) _));(case ha=>exact ((hsx.less pairR_stays (S':=fun b=>b<w2.heap.size) fun b hb _=>hb).same pairR_stays (hsm3.setCell ZH2 _)).z pairR_stays);rw[HrO.out];rintro e4 w4 ⟨B,bc,rfl,hsB,hb4⟩;have hs4:=(hb4.block w2.heap.size (by simpa using hz3)).trans (show _=some (.cells #[.int .i64 (d:Int),.bool true,.slice none 0 0] 239 (0,0)) by rw[heap_setCell_same _ _ _ _ _ _ hs3];rfl);obtain⟨t0,t1,t2,t3,t4,t5⟩:=box3p hs4;have hz4:w2.heap.size<w4.heap.size:=(Array.getElem?_eq_some_iff.1 hs4).1;have hz34:w3.heap.size≤w4.heap.size:=(by simpa using hb4.size);have hg4:=(hb4.block (w1.heap.size+1) ZC8).trans ((Below.heap_setCell w3 ⟨w2.heap.size,1,none⟩ (.bool true) (w1.heap.size+1) ZC5).trans hg3);have hg5:=(Below.heap_setCell w4 ⟨w2.heap.size,2,none⟩ (.slice B (bK x).length bc) (w1.heap.size+1) ZC5).trans hg4;obtain⟨ga0,ga1,ga2,ga3,_⟩:=aF3 hg5;have hw4:Below w.heap.size w w4:=(hw3.setCell (by have:=hw2.size;simp only[];omega) _).next hb4 (by have:=hw2.size;simp;omega);have hr4:Below wr.heap.size wr w4:=(hr3.setCell ZC5 _).next hb4 ZC8)
       | (at_builtin;refine bX5 stR_stays (S:=aB W0.heap.size) _ rfl _ _ _ rfl W0.heap.size 239 i0 _ 3 40 Tryz.underlying51 hi0 hy0 hy1 hy2 rfl ZD9 v acc rfl ?hown _ _ [.int .i64 (d:Int),.bool true,.slice B (bK x).length bc] rfl rfl (aE6 _ _ [.int .i64 (d:Int),.bool true,.slice B (bK x).length bc] _ ZH2) ZE8 ?hm ?hby ?hba ⟨d,true,bK x⟩ ?hd ?_;(case hown=>exact Own.below stR_stays Hown.out ((hr4.setCell ZC5 _).alloc ZC8 _));(case hm=>(simp only[maxLen];omega));(case hby=>omega);(case hba=>(simp;omega));(case hd=>exact cH4 (n:=w3.heap.size) (x:=⟨d,true,bK x⟩) (hsB.blo ZH2) (by rw[aR0];simp[big]) (((aC.refl _ _).setCell ZC4 _).alloc _) AO (fun b hb=>Hown.out.apart w3.heap.size AO b hb));intro v6 w6 hown6 hbw6 hgr hat;obtain⟨A6,c6,rfl⟩:=cS0 hown6;have hg6:=(hbw6.block (w1.heap.size+1) AO).trans ((heap_alloc_old _ _ ZC8).trans hg5);obtain⟨gf0,gf1,gf2,gf3,gf4,gf5,gf6,gf7⟩:=aF3 hg6;have hz6:w1.heap.size+1<w6.heap.size:=(Array.getElem?_eq_some_iff.1 hg6).1))
      have hS:aC (fun b=>(b≠w1.heap.size+1∧v.ownBlock≠some b)∧b<w2.heap.size) w2 (w6.setCell ⟨w1.heap.size+1,1,none⟩ (.slice A6 (acc.length+1) c6)) :=
       ((((((((aC.refl _ _).alloc _).trans (aC.of_below hb3)).setCell (fun h=>by have:=h.2;simp only[] at this;omega) _).trans (aC.of_below hb4)).setCell (fun h=>by have:=h.2;simp only[] at this;omega) _).alloc _).grown hgr (fun b hb h=>h.1.2 hb)).setCell (fun h=>h.1.1 rfl) _
      have hly:=Hly.out
      have hln:=Hln.out
      refine⟨⟨m,y,Y,cy,acc++[⟨d,true,bK x⟩],.slice A6 (acc++[(⟨d,true,bK x⟩:St)]).length c6,rfl,fun _=>hcy,AO,by omega,AO,by simp;omega,Hty.out,?_,?_,hEE,?_,?_,?_⟩,show y.length<l'.length by omega⟩
      ·refine ((hsy.less pairR_stays (S':=fun b=>(b≠w1.heap.size+1∧v.ownBlock≠some b)∧b<w2.heap.size) fun b hb h=>⟨h,hb⟩).same pairR_stays hS).less pairR_stays fun b _ h=>⟨h.1.1,?_⟩
       rcases hat with ht|ht
       ·rw[ht];exact h.1.2
       ·rw[ht]
        have q1:=h.2
        intro hq
        injection hq with hq
        simp at hq
        omega
      ·rw[List.append_assoc];exact hSS
      ·exact Own.same_from3 stR_stays hown6 ((aC.refl _ _).setCell ZC4 _)
      ·rw[heap_setCell_same _ _ _ _ _ _ hg6];simp
      ·exact ((((Hbel.out.trans (hr4.mono AO)).setCell ZC5 _).alloc ZC8 _).trans (hbw6.mono AO)).setCell zn _
     ·rw[cV3 hp AO hb] at hSS hEE
      have Hb:=zh hb
      have HrO:=zh (bR4 Hty.out (by rw[Hly.out];omega))
      have Hfin:=zh (show Htx=Htx from rfl)
      generalize hxx:l'.take (aU l')=x at *
      generalize hyy:l'.drop (aU l')=y at *
      generalize hkk:aU l'=kk at *
      have hzr':w1.heap.size+1<wr.heap.size:=by omega
      clear hxx hyy hkk Hfin hn1 hn2 hl1
      go_wp2_with (first
       | (go_at_call 257;(with_reducible refine (Hpar.out _ Hps.out).mono ?_);rintro e2 w2 ⟨X,cx,Y,cy,rfl,hcx,hcy,hsx,hsy,hb2⟩;have hz2:=hb2.size;have hg2:=(hb2.block (w1.heap.size+1) hzr').trans Hbx.out;have hw2:Below w.heap.size w w2:=(Hb0.out.trans (Hbel.out.mono AO)).next hb2 (by have:=Hb0.out.size;omega))
       | (go_at_call 258;(with_reducible refine (aR7 _ K k kc d ?h).mono ?_);(case h=>exact Hk.out.bbelow (hw2.alloc hw2.size _));rw[Hkb.out,Hb.out];rintro e3 w3 ⟨rfl,hb3⟩;have hs3:=(hb3.block w2.heap.size ZH2).trans (aK w2 _ _);obtain⟨s0,s1,s2,s3,s4,s5⟩:=box3p hs3;have hz3:w2.heap.size<w3.heap.size:=(Array.getElem?_eq_some_iff.1 hs3).1;have hg3:=(hb3.block (w1.heap.size+1) ZC8).trans ((heap_alloc_old _ _ AO).trans hg2);have hw3:Below w.heap.size w w3:=(hw2.alloc hw2.size _).next hb3 (by have:=hw2.size;simp;omega);have hsm3:aC (fun b=>b<w2.heap.size) w2 w3:=((aC.refl _ _).alloc _).trans (aC.of_below hb3);have hr3:Below wr.heap.size wr w3:=(hb2.alloc hz2 _).next hb3 ZC8)
       | (go_at_call 225;(with_reducible refine (aQ3 _ ?hT Y y cy ?ha hcy).mono ?_);(case hT=>exact HT.out.below (hw3.setCell (by have:=hw2.size;simp only[];omega) _));(case ha=>exact ((hsy.less pairR_stays (S':=fun b=>b<w2.heap.size) fun b hb _=>hb).same pairR_stays (hsm3.setCell ZH2 _)).z pairR_stays);rw[HrO.out];rintro e4 w4 ⟨B,bc,rfl,hsB,hb4⟩;have hs4:=(hb4.block w2.heap.size (by simpa using hz3)).trans (show _=some (.cells #[.int .i64 (d:Int),.bool false,.slice none 0 0] 239 (0,0)) by rw[heap_setCell_same _ _ _ _ _ _ hs3];rfl);obtain⟨t0,t1,t2,t3,t4,t5⟩:=box3p hs4;have hz4:w2.heap.size<w4.heap.size:=(Array.getElem?_eq_some_iff.1 hs4).1;have hz34:w3.heap.size≤w4.heap.size:=(by simpa using hb4.size);have hg4:=(hb4.block (w1.heap.size+1) ZC8).trans ((Below.heap_setCell w3 ⟨w2.heap.size,1,none⟩ (.bool false) (w1.heap.size+1) ZC5).trans hg3);have hg5:=(Below.heap_setCell w4 ⟨w2.heap.size,2,none⟩ (.slice B (bK y).length bc) (w1.heap.size+1) ZC5).trans hg4;obtain⟨ga0,ga1,ga2,ga3,_⟩:=aF3 hg5;have hw4:Below w.heap.size w w4:=(hw3.setCell (by have:=hw2.size;simp only[];omega) _).next hb4 (by have:=hw2.size;simp;omega);have hr4:Below wr.heap.size wr w4:=(hr3.setCell ZC5 _).next hb4 ZC8)
       | (at_builtin;refine bX5 stR_stays (S:=aB W0.heap.size) _ rfl _ _ _ rfl W0.heap.size 239 i0 _ 3 40 Tryz.underlying51 hi0 hy0 hy1 hy2 rfl ZD9 v acc rfl ?hown _ _ [.int .i64 (d:Int),.bool false,.slice B (bK y).length bc] rfl rfl (aE6 _ _ [.int .i64 (d:Int),.bool false,.slice B (bK y).length bc] _ ZH2) ZE8 ?hm ?hby ?hba ⟨d,false,bK y⟩ ?hd ?_;(case hown=>exact Own.below stR_stays Hown.out ((hr4.setCell ZC5 _).alloc ZC8 _));(case hm=>(simp only[maxLen];omega));(case hby=>omega);(case hba=>(simp;omega));(case hd=>exact cH4 (n:=w3.heap.size) (x:=⟨d,false,bK y⟩) (hsB.blo ZH2) (by rw[aR0];simp[big]) (((aC.refl _ _).setCell ZC4 _).alloc _) AO (fun b hb=>Hown.out.apart w3.heap.size AO b hb));intro v6 w6 hown6 hbw6 hgr hat;obtain⟨A6,c6,rfl⟩:=cS0 hown6;have hg6:=(hbw6.block (w1.heap.size+1) AO).trans ((heap_alloc_old _ _ ZC8).trans hg5);obtain⟨gf0,gf1,gf2,gf3,gf4,gf5,gf6,gf7⟩:=aF3 hg6;have hz6:w1.heap.size+1<w6.heap.size:=(Array.getElem?_eq_some_iff.1 hg6).1))
      have hS:aC (fun b=>(b≠w1.heap.size+1∧v.ownBlock≠some b)∧b<w2.heap.size) w2 (w6.setCell ⟨w1.heap.size+1,1,none⟩ (.slice A6 (acc.length+1) c6)) :=
       ((((((((aC.refl _ _).alloc _).trans (aC.of_below hb3)).setCell (fun h=>by have:=h.2;simp only[] at this;omega) _).trans (aC.of_below hb4)).setCell (fun h=>by have:=h.2;simp only[] at this;omega) _).alloc _).grown hgr (fun b hb h=>h.1.2 hb)).setCell (fun h=>h.1.1 rfl) _
      have hly:=Hlx.out
      have hln:=Hln.out
      refine⟨⟨m,x,X,cx,acc++[⟨d,false,bK y⟩],.slice A6 (acc++[(⟨d,false,bK y⟩:St)]).length c6,rfl,fun _=>hcx,AO,by omega,AO,by simp;omega,Htx.out,?_,?_,hEE,?_,?_,?_⟩,show x.length<l'.length by omega⟩
      ·refine ((hsx.less pairR_stays (S':=fun b=>(b≠w1.heap.size+1∧v.ownBlock≠some b)∧b<w2.heap.size) fun b hb h=>⟨h,hb⟩).same pairR_stays hS).less pairR_stays fun b _ h=>⟨h.1.1,?_⟩
       rcases hat with ht|ht
       ·rw[ht];exact h.1.2
       ·rw[ht]
        have q1:=h.2
        intro hq
        injection hq with hq
        simp at hq
        omega
      ·rw[List.append_assoc];exact hSS
      ·exact Own.same_from3 stR_stays hown6 ((aC.refl _ _).setCell ZC4 _)
      ·rw[heap_setCell_same _ _ _ _ _ _ hg6];simp
      ·exact ((((Hbel.out.trans (hr4.mono AO)).setCell ZC5 _).alloc ZC8 _).trans (hbw6.mono AO)).setCell zn _
    ·have hl1':l'.length=1:=by omega
     have hki:¬ (1:Int)<(l'.length:Int):=by omega
     rw[path_one AO] at hSS hEE
     simp only[List.append_nil] at hSS
     subst hSS hEE
     obtain⟨q,rfl⟩:=List.length_eq_one_iff.1 hl1'
     obtain⟨g,off,K0,c0,V0,d0,rfl,hgS,hgl,q0,q1,hs0,hs1,hbK,hbV⟩:=aE3 Hps.out (k:=0) ZH2
     simp only[Nat.zero_mul,Nat.add_zero,List.getElem_cons_zero] at q0 q1 hs0 hs1 hbK hbV
     have Hs0:=zh hs0.bz
     have Hs1:=zh hs1.bz
     obtain⟨A9,c9,rfl,_,hs9⟩:=Hown.out.readc stR_stays
     have Hs9:=zh hs9
     have hR1:=(Hbel.out.block w.heap.size hRG).trans HR0.out
     have HR1:=zh hR1
     have hzr':w1.heap.size+1<wr.heap.size:=by omega
     have Hbw:=zh (Hb0.out.trans (Hbel.out.mono AO))
     clear hs0 hs1 hs9 hR1 hlt hki hl1 hl1' hl60 hln hal hcc hcc0 htr
     go_wp2_with ((go_at_call 259;(with_reducible refine (cH5 _ K0 V0 q c0 d0 Hs0.out Hs1.out hbK hbV).mono ?_);rintro e2 w2 ⟨K2,k2,V2,v2,rfl,hs2a,hs2b,hb2⟩;have hg2:=(hb2.block (w1.heap.size+1) hzr').trans Hbx.out;have hr2:=(hb2.block w.heap.size AO).trans HR1.out;have hz2:=hb2.size;obtain⟨ga0,ga1,ga2,ga3,ga4,ga5,ga6,ga7⟩:=aF3 hg2;obtain⟨gr0,gr1,gr2,gr3,gr4,gr5,gr6,gr7⟩:=aF3 hr2;have hzg2:w1.heap.size+1<w2.heap.size:=AO;have hzr2:w.heap.size<w2.heap.size:=AO))
     obtain⟨w9,hw9⟩:∃ w9,((((((w2.setCell ⟨w1.heap.size+1,2,none⟩ (.slice K2 q.1.length k2)).setCell ⟨w1.heap.size+1,3,none⟩ (.slice V2 q.2.length v2)).setCell ⟨w.heap.size,0,none⟩ (.bool false)).setCell ⟨w.heap.size,1,none⟩ (.slice A9 acc.length c9)).setCell ⟨w.heap.size,2,none⟩ (.slice K2 q.1.length k2)).setCell ⟨w.heap.size,3,none⟩ (.slice V2 q.2.length v2))=w9:=⟨_,rfl⟩
     have hr9:w9.heap[w.heap.size]?=some (.cells #[.bool false,.slice A9 acc.length c9,.slice K2 q.1.length k2,.slice V2 q.2.length v2] 55 (0,0)):=by
      rw[← hw9,heap_setCell_same _ _ _ _ _ _ (heap_setCell_same _ _ _ _ _ _ (heap_setCell_same _ _ _ _ _ _ (heap_setCell_same _ _ _ _ _ _ ((Below.heap_setCell _ _ _ _ ZC5).trans ((Below.heap_setCell _ _ _ _ ZC5).trans hr2)))))]
      rfl
     have hb9:Below w.heap.size w w9:=by rw[← hw9];exact (((((((Hbw.out.next hb2 Hbw.out.size).setCell ZC5 _).setCell ZC5 _).setCell ZC5 _).setCell ZC5 _).setCell ZC5 _).setCell ZC5 _)
     have hS9:aC (aB W0.heap.size) wr w9:=by rw[← hw9];exact (((((((aC.of_below hb2).setCell ZC4 _).setCell ZC4 _).setCell ZC4 _).setCell ZC4 _).setCell ZC4 _).setCell ZC4 _)
     have hS8:aC (aB wr.heap.size) w2 w9:=by rw[← hw9];exact (((((((aC.refl _ _).setCell ZC4 _).setCell ZC4 _).setCell ZC4 _).setCell ZC4 _).setCell ZC4 _).setCell ZC4 _)
     rw[hw9]
     obtain⟨e0,e1,e2,e3,_⟩:=aF3 hr9
     refine bodyPost_ret (v:=.tuple #[.agg #[.bool false,.slice A9 acc.length c9,.slice K2 q.1.length k2,.slice V2 q.2.length v2],.int .i64 0]) (by simp[results,Tryz.results227,go_sem,e0,e1,e2,e3]) rfl ?_
     rw[Hv.out]
     exact⟨A9,c9,K2,k2,V2,v2,rfl,(Hs9.out.same stR_stays hS9).lo stR_stays Hb0.out.size,(hs2a.bsame hS8).blo Hbw.out.size,(hs2b.bsame hS8).blo Hbw.out.size,hb9⟩
 ·have Hv:=zh (show aH2 l k=(pf0,aD3 l k) by rw[aH2,if_pos hf])
  have hb:(ge != 0)=true:=by rw[Hge.out];simpa using hf
  clear hf
  go_enter Tryz.func227,Tryz.ntmps227
  go_wp2_with (go_at_call 52;(with_reducible refine (aV7 _ A l c K k kc ?h1 ?h2).mono ?_);(case h1=>(refine Ha.out.below pairR_stays ?_;exact BX));(case h2=>(refine Hk.out.bbelow ?_;exact BX));rw[Hget.out];rintro e1 w1 ⟨V1,v1,rfl,_,hb1⟩;have hq1:Below w.heap.size w w1:=(Below.next BX hb1 ZH2);have hx1:=(hb1.block w.heap.size ZH2).trans Hz0.out;have hlt1:w.heap.size<w1.heap.size:=(Array.getElem?_eq_some_iff.1 hx1).1;obtain⟨r0,r1,r2,r3,r4,r5,r6,r7⟩:=aF3 hx1)
  obtain⟨w2,hw2⟩:∃ w2,(((((w1.setCell ⟨w.heap.size,0,none⟩ (.bool false)).setCell ⟨w.heap.size,1,none⟩ (.slice none 0 0)).setCell ⟨w.heap.size,2,none⟩ (.slice none 0 0)).setCell ⟨w.heap.size,3,none⟩ (.slice none 0 0)).alloc (.cells #[.bool gf,.slice V1 gv.length v1] 81))=w2:=⟨_,rfl⟩
  have hz2:w2.heap[w.heap.size]?=some (.cells #[.bool false,.slice none 0 0,.slice none 0 0,.slice none 0 0] 55 (0,0)):=by
   rw[← hw2]
   rw[heap_alloc_old _ _ (by simpa using hlt1),heap_setCell_same _ _ _ _ _ _ (heap_setCell_same _ _ _ _ _ _ (heap_setCell_same _ _ _ _ _ _ (heap_setCell_same _ _ _ _ _ _ hx1)))]
   rfl
  have hb2:Below w.heap.size w w2:=by
   rw[← hw2]
   exact ((((hq1.setCell zn _).setCell zn _).setCell zn _).setCell zn _).alloc (by simpa using hq1.size) _
  rw[hw2]
  obtain⟨e0,e1,e2,e3,_⟩:=aF3 hz2
  refine bodyPost_ret (v:=.tuple #[.agg #[.bool false,.slice none 0 0,.slice none 0 0,.slice none 0 0],.int .i64 ge]) (by simp[results,Tryz.results227,go_sem,e0,e1,e2,e3]) rfl ?_
  rw[Hv.out,Hge.out]
  exact⟨none,0,none,0,none,0,rfl,SL.nil,SL.nil,SL.nil,hb2⟩
end Go.Proofs.YtablgnacmpcfeaaGreatDoor
