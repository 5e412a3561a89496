/- Ver: The iterator slices.Backward over a proof's steps: its contract. No condition but the steps' memory. Walks: proof.up and digestUp. The proof may be. Walks: digestUp, proof.Verify and Verified; the law ProofVerifies. The law ProofVerifies: its walk. The conditions of each are in its words. -/
import Derived.RangeFuncNested
import Derived.RangeFuncBound
import Derived.RangeFuncCalls
import Derived.RangeFuncLeaves
import Derived.RangeFuncBox
import Derived.Shelf.Abstract
import Derived.Shelf.RegionOpen
import Derived.OwnWalkIn
import Derived.TacticsInMore
import Derived.LoopNIn
import Derived.LoopIn
import Derived.Test.YtodopbnhkkkcbaaGreatDoorKPf
import Derived.Test.YtodopbnhkkkcbaaGreatDoorKRootR
import Derived.Test.YtodopbnhkkkcbaaGreatDoorKPv
import Derived.Test.YtodopbnhkkkcbaaGreatDoorKBase
import Derived.Test.YtodopbnhkkkcbaaGreatDoorKTrees
namespace Go.Proofs.YtodopbnhkkkcbaaGreatDoor
open Go.RowKit Go.Shelf
set_option linter.unusedVariables false
set_option linter.unusedSimpArgs false
set_option maxRecDepth 100000
set_option maxHeartbeats 8000000
attribute [local go_sem] Oper.semAt_some
theorem dK2 (w:World) (o:Obj) {r:Nat} (h:r<w.heap.size):(w.alloc o).heap[r]?=w.heap[r]?:=by
 show (w.heap.push o)[r]?=_
 rw[Array.getElem?_push_lt h,Array.getElem?_eq_getElem h]
theorem dK3 (w:World) (o:Obj):(w.alloc o).heap[w.heap.size]?=some o:=by
 show (w.heap.push o)[w.heap.size]?=some o
 simp
def dK4 (n:Nat):List (Fin n):=(List.finRange n).reverse
theorem dK5 (n:Nat):(dK4 n).length=n:=by simp[dK4]
theorem backs_at {n k:Nat} (h:k<n):(dK4 n)[k]'(by rw[dK5];exact h)=⟨n - 1 - k,AO⟩:=by simp[dK4]
theorem dK6 {n k:Nat} (h:k<n):(dK4 n).take (k+1)=(dK4 n).take k++[⟨n - 1 - k,AO⟩]:=by
 rw[aC8 _ _ (by rw[dK5];exact h),backs_at h]
def dK7 (l:List St) (A:Nat→Option Addr) (c:Nat→Nat) (j:Fin l.length):Array Value:=#[.int .i64 ((j.1:Nat):Int),.agg #[.int .i64 (l[j.1]'j.2).bit,.bool (l[j.1]'j.2).right,.slice (A j.1) (l[j.1]'j.2).other.length (c j.1)]]
structure dK8 (w:World) (b off:Nat) (l:List St) (A:Nat→Option Addr) (c:Nat→Nat):Prop where
 lt:b<w.heap.size
 bit:∀ j (h:j<l.length),w.cell? ⟨b,off+j*3,none⟩=some (.int .i64 l[j].bit)
 right:∀ j (h:j<l.length),w.cell? ⟨b,off+j*3+1,none⟩=some (.bool l[j].right)
 other:∀ j (h:j<l.length),w.cell? ⟨b,off+j*3+2,none⟩=some (.slice (A j) l[j].other.length (c j))
theorem back1_in (F:Fence) (n:Nat) (h7:F.fn 108) (hro:F.round=none) (hn:1≤n) (T:Nat→Prop) (k0 Bs b off cap:Nat) (l:List St) (A:Nat→Option Addr) (c:Nat→Nat) (hl:l.length≤140737488355328) (hb:T b) (J Jx:List (Fin l.length)→World→Prop)
  (hY:∀ pre x W,J pre W→pre.length<l.length→YieldAt F (n - 1) Tryz.prog k0 (dK7 l A c x) W fun e W' =>
   (e=.returned (.bool true)∧J (pre++[x]) W'∧aC T W W')∨(e=.returned (.bool false)∧Jx (pre++[x]) W'))
  (W:World) (hBn:T Bs) (hBs:W.cell? ⟨Bs,0,none⟩=some (.slice (some ⟨b,off,none⟩) l.length cap)) (hBl:Bs<W.heap.size) (hS:dK8 W b off l A c) (h0:J [] W) :
  CallsIn F n Tryz.prog 108 #[.func (.yield k0) #[] #[],.pointer (some ⟨Bs,0,none⟩)] W fun e W'=>(∃ v,e=.returned v) ∧
   ((∃ ys,ys=dK4 l.length∧J ys W')∨(∃ pre,True∧Jx pre W')):=by
 refine callsIn_of_wp Tryz.func108 rfl h7 ?_ hro
 simp only[Tryz.ntmps108,List.size_toArray,List.length_cons,List.length_nil,Nat.reduceAdd,Nat.reduceSub,Array.replicate_succ,Array.replicate_zero,List.push_toArray,List.append_toArray,List.nil_append,List.cons_append]
 have mk0:IntKind.i64.wrap ((l.length:Int) - 1)=(l.length:Int) - 1:=IntWalk.i64_in _ AO
 gi_wp2
 gi_loopw [3] (fun i wr=>∃ k:Nat,k≤l.length∧i=.int .i64 ((l.length:Int) - 1 - (k:Int))∧J ((dK4 l.length).take k) wr∧aC T W wr) (fun i _=>(intOf i+1).toNat)
 case atStart=>exact⟨0,Nat.zero_le _,by simp,h0,aC.refl _ _⟩
 case round =>
  obtain⟨k,hk,rfl,hJs,hnx⟩:=hrel
  have hBs':=(hnx.cell (p:=⟨Bs,0,none⟩) hBn hBl).trans hBs
  by_cases hlt:k<l.length
  ·have hj:l.length - 1 - k<l.length:=by omega
   have ej:(l.length:Int) - 1 - (k:Int)=((l.length - 1 - k:Nat):Int):=by omega
   have hq0:=(hnx.cell (p:=⟨b,off+(l.length - 1 - k)*3,none⟩) hb hS.lt).trans (hS.bit _ hj)
   have hq1:=(hnx.cell (p:=⟨b,off+(l.length - 1 - k)*3+1,none⟩) hb hS.lt).trans (hS.right _ hj)
   have hq2:=(hnx.cell (p:=⟨b,off+(l.length - 1 - k)*3+2,none⟩) hb hS.lt).trans (hS.other _ hj)
   obtain⟨fn,tmps,assign,body,hy,hR⟩:=hY _ ⟨l.length - 1 - k,hj⟩ wr hJs (by rw[List.length_take,dK5];omega)
   have hsn:=dK6 hlt
   unfold dK7 at hy
   dsimp only at hy
   have mk:IntKind.i64.wrap ((l.length:Int) - 1 - (k:Int) - 1)=(l.length:Int) - 1 - ((k+1:Nat):Int):=by rw[IntWalk.i64_in _ AO];omega
   rw[ej] at *
   have hjz:(0:Int)≤((l.length - 1 - k:Nat):Int):=by omega
   have hjl:((l.length - 1 - k:Nat):Int)<(l.length:Int):=by omega
   gi_wp2
   refine hR.mono ?_
   rintro e W3 (⟨rfl,hJ3,hk3⟩|⟨rfl,hJx3⟩)
   ·gi_wp2
    go_roundw
    case rel=>exact⟨k+1,AO,by simp,by rw[hsn];exact hJ3,hnx.trans hk3⟩
    case measure=>simp[intOf];omega
   ·gi_wp2
    refine bodyPost_ret (results_none rfl _ _ _) rfl ?_
    exact⟨⟨_,rfl⟩,.inr ⟨_,trivial,hJx3⟩⟩
  ·obtain rfl:k=l.length:=by omega
   have hk0:¬ (0:Int)≤(l.length:Int) - 1 - (l.length:Int):=by omega
   gi_wp2
   go_end0
   rw[List.take_of_length_le (by rw[dK5];omega)] at hJs
   exact⟨⟨_,rfl⟩,.inl hJs⟩
theorem dK9 (F:Fence) (n:Nat) (h7:F.fn 108) (hro:F.round=none) (k0 Bs cap:Nat) (A:Option Addr) (J:World→Prop) (W:World) (hBs:W.cell? ⟨Bs,0,none⟩=some (.slice A 0 cap)) (h0:J W) :
  CallsIn F n Tryz.prog 108 #[.func (.yield k0) #[] #[],.pointer (some ⟨Bs,0,none⟩)] W fun e W'=>(∃ v,e=.returned v)∧J W':=by
 refine callsIn_of_wp Tryz.func108 rfl h7 ?_ hro
 simp only[Tryz.ntmps108,List.size_toArray,List.length_cons,List.length_nil,Nat.reduceAdd,Nat.reduceSub,Array.replicate_succ,Array.replicate_zero,List.push_toArray,List.append_toArray,List.nil_append,List.cons_append]
 gi_wp2
 gi_loopw [3] (fun i wr=>i=.int .i64 (-1)∧J wr) (fun _ _=>0)
 case atStart=>exact⟨rfl,h0⟩
 case round =>
  obtain⟨rfl,hJs⟩:=hrel
  gi_wp2
  go_end0
  exact⟨⟨_,rfl⟩,hJs⟩
theorem dL0 (F:Fence) (n:Nat) (h5:F.fn 81) (hro:F.round=none) (a:Option Addr) (len cap:Nat) (w:World) :
  CallsIn F n Tryz.prog 81 #[.slice a len cap] w fun e w'=>e=.returned (.func (.func 108) #[] #[.pointer (some ⟨w.heap.size,0,none⟩)])∧w'=w.alloc (.cells #[.slice a len cap] 42):=by
 refine callsIn_of_wp Tryz.func81 rfl h5 ?_ hro
 simp only[Tryz.ntmps81,List.size_toArray,List.length_cons,List.length_nil,Nat.reduceAdd,Nat.reduceSub,Array.replicate_succ,Array.replicate_zero,List.push_toArray,List.append_toArray,List.nil_append,List.cons_append]
 gi_wp2
 go_ret
 exact⟨rfl,rfl⟩
theorem dL1 (F:Fence) (n:Nat) (h7:F.fn 108) (hro:F.round=none) (hn:1≤n) (T:Nat→Prop) (Bs b off cap:Nat) (l:List St) (A:Nat→Option Addr) (c:Nat→Nat) (hl:l.length≤140737488355328) (hb:T b) (w:World)
  (hBn:T Bs) (hBs:w.cell? ⟨Bs,0,none⟩=some (.slice (some ⟨b,off,none⟩) l.length cap)) (hBl:Bs<w.heap.size) (hS:dK8 w b off l A c) :
  SeqStopsK F n Tryz.prog 108 #[.pointer (some ⟨Bs,0,none⟩)] (dK7 l A c) (aC T) (fun ys=>ys=dK4 l.length) (fun _=>True) l.length w:=fun k0 J Jx W hW _ _ hY h0=>by
 refine (back1_in F n h7 hro hn T k0 Bs b off cap l A c hl hb J Jx hY W hBn ((hW.cell (p:=⟨Bs,0,none⟩) hBl).trans hBs) (Nat.lt_of_lt_of_le hBl hW.size) ⟨Nat.lt_of_lt_of_le hS.lt hW.size,fun j h=>(hW.cell hS.lt).trans (hS.bit j h),fun j h=>(hW.cell hS.lt).trans (hS.right j h),fun j h=>(hW.cell hS.lt).trans (hS.other j h)⟩ h0)
theorem dL2 (F:Fence) (n:Nat) (h7:F.fn 108) (hro:F.round=none) (T:Nat→Prop) (Bs cap:Nat) (B:Option Addr) (A:Nat→Option Addr) (c:Nat→Nat) (w:World)
  (hBs:w.cell? ⟨Bs,0,none⟩=some (.slice B 0 cap)) (hBl:Bs<w.heap.size) :
  SeqStopsK F n Tryz.prog 108 #[.pointer (some ⟨Bs,0,none⟩)] (dK7 [] A c) (aC T) (fun ys=>ys=dK4 0) (fun _=>True) 0 w:=fun k0 J Jx W hW _ _ _ h0=>by
 refine (dK9 F n h7 hro k0 Bs cap B (J []) W ((hW.cell (p:=⟨Bs,0,none⟩) hBl).trans hBs) h0).mono ?_
 rintro e W' ⟨he,hj⟩
 exact⟨he,.inl ⟨[],rfl,hj⟩⟩
theorem steps_at {S:Nat→Prop} {w:World} {b off:Nat} {l:List St} (h:Sts S w (some ⟨b,off,none⟩) l) (hl:0<l.length):∃ (A:Nat→Option Addr) (c:Nat→Nat),dK8 w b off l A c∧(∀ j (hj:j<l.length),Bs S w (A j) l[j].other)∧S b:=by
 have hex:∀ j,∃ (p:Option Addr × Nat),∀ (hj:j<l.length),w.cell? ⟨b,off+j*3,none⟩=some (.int .i64 l[j].bit)∧w.cell? ⟨b,off+j*3+1,none⟩=some (.bool l[j].right)∧w.cell? ⟨b,off+j*3+2,none⟩=some (.slice p.1 l[j].other.length p.2)∧Bs S w p.1 l[j].other:=by
  intro j
  by_cases hj:j<l.length
  ·obtain⟨b',off',B,c,he,_,_,h1,h2,h3,h4,_⟩:=dG3 h hj
   cases he
   exact⟨(B,c),fun _=>⟨h1,h2,h3,h4⟩⟩
  ·exact⟨(none,0),fun h=>absurd h hj⟩
 obtain⟨b',off',_,_,he,hS,hlt,_⟩:=dG3 h hl
 cases he
 exact⟨fun j=>(Classical.choose (hex j)).1,fun j=>(Classical.choose (hex j)).2,⟨hlt,fun j hj=>(Classical.choose_spec (hex j) hj).1,fun j hj=>(Classical.choose_spec (hex j) hj).2.1,fun j hj=>(Classical.choose_spec (hex j) hj).2.2.1⟩,fun j hj=>(Classical.choose_spec (hex j) hj).2.2.2,hS⟩
attribute [local go_sem] Oper.semAt_some
def dL3 (s:St) (d:List UInt8):List UInt8:=if s.right then bQ1 s.bit s.other d else bQ1 s.bit d s.other
theorem dL4 (s:St) (d:List UInt8):(dL3 s d).length=32:=by unfold dL3;split <;> exact aO2 _
def upS (p:Pf):List UInt8:=if p.empty then noneS else p.steps.foldr dL3 (bX0 p.pair)
def dL5 (p:Pf) (pre:List (Fin p.steps.length)):List UInt8:=pre.foldl (fun d j=>dL3 (p.steps[j.1]'j.2) d) (bX0 p.pair)
theorem dL6 (p:Pf) (pre:List (Fin p.steps.length)) (j:Fin p.steps.length):dL5 p (pre++[j])=dL3 (p.steps[j.1]'j.2) (dL5 p pre):=by simp[dL5]
theorem upTo_len (p:Pf) (pre:List (Fin p.steps.length)):(dL5 p pre).length=32:=by
 rcases List.eq_nil_or_concat pre with rfl|⟨q,j,rfl⟩
 ·exact aO2 _
 ·rw[List.concat_eq_append,dL6];exact dL4 _ _
theorem upTo_all (p:Pf):dL5 p (dK4 p.steps.length)=p.steps.foldr dL3 (bX0 p.pair):=by
 have e:(List.finRange p.steps.length).map (fun j=>p.steps[j.1]'j.2)=p.steps:=by
  apply List.ext_getElem
  ·simp
  ·intro i h1 h2
   simp
 unfold dL5 dK4
 rw[List.foldl_reverse]
 conv=>rhs;rw[← e]
 rw[List.foldr_map]
theorem one_tree {q:Pr} (h:aA5 q=0):bF5 [q]=(bX0 q,0):=by
 have hf:aG [q]=0:=(aE0 _).2 ⟨by simp,by simpa using h,by
  intro i j hi hj
  simp[aP] at hj
  omega⟩
 rw[bF5,if_pos hf,root_one rfl]
 rfl
theorem ps_one {w:World} {g:Nat} {t:TypeId} {A B:Option Addr} {a b:Nat} {q:Pr} (h:w.heap[g]?=some (.cells #[.slice A q.1.length a,.slice B q.2.length b] t (0,0))) (h1:Bs All w A q.1) (h2:Bs All w B q.2) (g1:q.1.length≤big) (g2:q.2.length≤big):Ps All w (some ⟨g,0,none⟩) [q]:=by
 refine bQ3 (cs:=[.slice A q.1.length a,.slice B q.2.length b]) h trivial fun i hi=>?_
 obtain rfl:i=0:=by simpa using hi
 exact⟨[.slice A q.1.length a,.slice B q.2.length b],rfl,fun j hj=>by match j,hj with
  | 0,_=>rfl
  | 1,_=>rfl,A,a,B,b,rfl,h1,h2,g1,g2⟩
theorem dL7 (w:World) (hT:bD w) (A:Option Addr) (q:Pr) (c:Nat) (ha:Ps All w A [q]) (hc:1≤c) (h:aA5 q=0):Calls Tryz.prog 36 #[.slice A 1 c] w (bD2 w (bX0 q,0)):=by
 have:=aQ3 w hT A [q] c ha hc
 rw[one_tree h] at this
 exact this
theorem dL8 {S:Nat→Prop} {W W':World} {row:Option Nat} {A:Option Addr} {l:List UInt8} (h:Bs S W A l) (hg:W.grownBy W' row) (hr:∀ r,row=some r→∃ o:Obj,W.heap[r]?=some o∧o.isCells=false):Bs S W' A l:=by
 have h1:Bs (fun b=>S b∧row≠some b) W A l:=by
  intro hl
  obtain⟨b,off,e,hS,hlt,hi⟩:=h hl
  refine⟨b,off,e,⟨hS,fun er=>?_⟩,hlt,fun i hil=>?_⟩
  ·obtain⟨o,ho,hc⟩:=hr b er
   obtain⟨cs,h1,h2,h3⟩:=hi 0 hl
   have h4:=h2 0 AO
   rw[h3] at h4
   have h5:W.cell? ⟨b,off+0*1+0,none⟩=some (bv l[0]):=h4
   cases o <;> simp[World.cell?,ho,Obj.isCells] at h5 hc
  ·obtain⟨cs,h1,h2,h3⟩:=hi i hil
   exact⟨cs,h1,h2,h3⟩
 exact (h1.bsame ⟨hg.size,fun k hk hlt=>hg.block k hlt (fun e=>hk.2 e.symm)⟩).bless fun b _ h=>h.1
theorem dL9 {W W':World} {row:Option Nat} {g:Nat} {cs:Array Value} {t:TypeId} {f:Nat × Nat} (h:W.heap[g]?=some (.cells cs t f)) (hg:W.grownBy W' row) (hr:∀ r,row=some r→∃ o:Obj,W.heap[r]?=some o∧o.isCells=false):W'.heap[g]?=some (.cells cs t f):=by
 refine (hg.block g (Array.getElem?_eq_some_iff.1 h).1 fun e=>?_).trans h
 obtain⟨o,ho,hc⟩:=hr g e.symm
 rw[h] at ho
 cases ho
 cases hc
theorem dM0 {B:Nat} {W W':World} (h:Below W.heap.size W W'):KeepsFrom B W W':=⟨h.size,fun k o _ hk _=>(h.block k (Array.getElem?_eq_some_iff.1 hk).1).trans hk⟩
theorem up_ok (w:World) (hT:bD w) (A K V:Option Addr) (p:Pf) (n a b:Nat) (ha:Sts All w A p.steps) (hK:Bs All w K p.pair.1) (hV:Bs All w V p.pair.2) (he:p.empty=false) (hp:aA5 p.pair=0) (hst:p.steps.length*40≤140737488355328)
  (hs:∀ j (h:j<p.steps.length),(0≤p.steps[j].bit∧p.steps[j].bit≤144)∧p.steps[j].other.length=32) :
  Calls Tryz.prog 56 #[.agg #[.bool false,.slice A p.steps.length n,.slice K p.pair.1.length a,.slice V p.pair.2.length b]] w (bU7 w (upS p)):=by
 have HT:=zh hT
 have Ha:=zh ha
 have HK:=zh hK
 have HV:=zh hV
 have Hp:=zh hp
 have Hs:=zh hs
 have hl1:p.pair.1.length≤big∧p.pair.2.length≤big:=by
  unfold aA5 aE at hp
  split at hp
  ·cases hp
  ·split at hp <;> (unfold big;constructor <;> omega)
 clear hT ha hK hV hs hp
 refine (callsIn_wide (n:=3)).1 ?_
 refine callsIn_of_wp_marks Tryz.func56 rfl trivial ?_ rfl
 simp only[Tryz.ntmps56,List.size_toArray,List.length_cons,List.length_nil,Nat.reduceAdd,Nat.reduceSub,Array.replicate_succ,Array.replicate_zero,List.push_toArray,List.append_toArray,List.nil_append,List.cons_append]
 gi_wp2_with (first
  | (refine⟨trivial,?_⟩;gi_at_call 36;(with_reducible refine (callsIn_wide.2 (dL7 _ ?t1 _ p.pair _ ?t2 AO Hp.out)).mono ?_);(case t1=>(refine HT.out.below ?_;exact BX));(case t2=>(refine ps_one (cM2 _ _ ZH2) (HK.out.bbelow ?_) (HV.out.bbelow ?_) hl1.1 hl1.2;(all_goals try exact BX)));rintro e1 w1 ⟨B,bc,rfl,hsB,hb1⟩;have hq1:Below w.heap.size w w1:=(Below.next BX hb1 ZC8);have hx1:=(hb1.block w.heap.size ZC8).trans ((dK2 _ _ ZH2).trans (aK w _ _));obtain⟨x0,x1,x2,x3,_⟩:=aF3 hx1;have hz1:w.heap.size<w1.heap.size:=(Array.getElem?_eq_some_iff.1 hx1).1)
  | (refine⟨trivial,?_⟩;gi_at_call 81;refine (dL0 Fence.wide _ trivial rfl _ _ _ _).mono ?_;rintro e w' ⟨rfl,rfl⟩))
 obtain⟨W0,hW0⟩:∃ W0,(w1.alloc (.cells #[.slice B (bX0 p.pair).length bc] 27)).alloc (.cells #[.slice A p.steps.length n] 42)=W0:=⟨_,rfl⟩
 have hsz:W0.heap.size=w1.heap.size+2:=by rw[← hW0];simp
 have hD0:W0.heap[w1.heap.size]?=some (.cells #[.slice B (bX0 p.pair).length bc] 27 (0,0)):=by rw[← hW0];exact (dK2 _ _ ZH2).trans (aK w1 _ _)
 have hE0:W0.heap[w1.heap.size+1]?=some (.cells #[.slice A p.steps.length n] 42 (0,0)):=by
  have:=dK3 (w1.alloc (.cells #[.slice B (bX0 p.pair).length bc] 27)) (.cells #[.slice A p.steps.length n] 42)
  rw[← hW0]
  simpa using this
 have hb0:Below w.heap.size w W0:=by rw[← hW0];exact (hq1.alloc hq1.size _).alloc (by have:=hq1.size;simp;omega) _
 have hwz:w.heap.size<w1.heap.size:=hz1
 have hs0:Bs (aB w.heap.size) W0 B (bX0 p.pair):=by
  rw[← hW0]
  exact (hsB.bsame (((aC.refl _ _).alloc _).alloc _)).blo ZC8
 have hst0:∃ (Aj:Nat→Option Addr) (cj:Nat→Nat),(∀ j (h:j<p.steps.length),Bs All w (Aj j) p.steps[j].other)∧SeqStopsK Fence.wide (3 - 1) Tryz.prog 108 #[.pointer (some ⟨w1.heap.size+1,0,none⟩)] (dK7 p.steps Aj cj) (aC (fun k=>k<W0.heap.size∧k≠w1.heap.size)) (fun ys=>ys=dK4 p.steps.length) (fun _=>True) p.steps.length W0:=by
  by_cases h0:0<p.steps.length
  ·obtain⟨gb,go,_,_,rfl,_⟩:=dG3 Ha.out h0
   obtain⟨Aj,cj,hS,hB,_⟩:=steps_at Ha.out h0
   refine⟨Aj,cj,hB,dL1 Fence.wide _ trivial rfl AO _ (w1.heap.size+1) gb go n p.steps Aj cj AO ⟨by have:=hS.lt;omega,by have:=hS.lt;omega⟩ W0 ⟨AO,AO⟩ (aA (cs:=[.slice (some ⟨gb,go,none⟩) p.steps.length n]) hE0 0) AO ⟨by have:=hS.lt;omega,fun j h=>(hb0.cell hS.lt).trans (hS.bit j h),fun j h=>(hb0.cell hS.lt).trans (hS.right j h),fun j h=>(hb0.cell hS.lt).trans (hS.other j h)⟩⟩
  ·have hz:p.steps.length=0:=by omega
   have hnil:=List.eq_nil_of_length_eq_zero hz
   refine⟨fun _=>none,fun _=>0,fun j h=>absurd h AO,?_⟩
   rw[hz] at hE0
   have:=dL2 Fence.wide (3 - 1) trivial rfl (fun k=>k<W0.heap.size∧k≠w1.heap.size) (w1.heap.size+1) n A (fun _=>none) (fun _=>0) W0 (aA (cs:=[.slice A 0 n]) hE0 0) AO
   obtain⟨pe,ps,pp⟩:=p
   simp only[] at hnil
   subst hnil
   exact this
 obtain⟨Aj,cj,hBj,hseq⟩:=hst0
 have HBj:=zh hBj
 rw[hW0]
 clear hW0 hBj hb1 hx1 x0 x1 x2 x3 hq1 hz1 hsB
 refine wpIn_rangeFunc_ownH rfl AO (gf:=108) (lb:=#[.pointer (some ⟨w1.heap.size+1,0,none⟩)]) rfl trivial (enters_of Tryz.func108 ZG0 rfl)
  hseq (fun h k=>h.trans k) (fun W l o o' hl h _ _=>⟨(grownBy_putObj' W l o').size,fun k hk hlt=>(grownBy_putObj' W l o').block k hlt (fun e=>by cases e;omega)⟩) (Below.refl _ _) (fun _=>rfl)
  (fun pre W=>((∃ Bd bd,W.heap[w1.heap.size]?=some (.cells #[.slice Bd (dL5 p pre).length bd] 27 (0,0))∧Bs (aB w.heap.size) W Bd (dL5 p pre))∧(Below w.heap.size w W∧W0.heap.size≤W.heap.size)))
  (fun _ _ _=>False)
  (OwnFrom.and (fun pre X Y row hs hg hr=>by obtain⟨Bd,bd,h1,h2⟩:=hs;exact⟨Bd,bd,dL9 h1 hg (fun r e=>(hr r e).2),dL8 h2 hg (fun r e=>(hr r e).2)⟩) (OwnFrom.and (ownFrom_below zn AO) (fun pre X Y row hs hg _=>Nat.le_trans hs hg.size)))
  (fun _ _ _ _ _ hs _ _=>hs)
  ⟨⟨B,bc,hD0,hs0⟩,hb0,zn⟩
  (fun x a' W=>∃ Bx,W0.heap.size≤Bx∧W.heap[Bx]?=some (.cells #[.int .i64 (p.steps[x.1]'x.2).bit,.bool (p.steps[x.1]'x.2).right,.slice (Aj x.1) (p.steps[x.1]'x.2).other.length (cj x.1)] 163 (0,0))∧a'={ tmps:=#[.agg #[.bool false,.slice A p.steps.length n,.slice K p.pair.1.length a,.slice V p.pair.2.length b],.pointer (some ⟨w.heap.size,0,none⟩),.slice none 0 0,undef,undef,.pointer (some ⟨w1.heap.size,0,none⟩),.int .i64 0,undef,.pointer (some ⟨Bx,0,none⟩),undef,.pointer (some ⟨w.heap.size,0,none⟩),.bool false,undef,undef,undef,undef,undef,.tuple #[.slice B (bX0 p.pair).length bc,.int .i64 0],.pointer (some ⟨w.heap.size,2,none⟩),.agg #[.slice K p.pair.1.length a,.slice V p.pair.2.length b],.slice (some ⟨w.heap.size+1,0,none⟩) 1 1,.tuple #[.slice B (bX0 p.pair).length bc,.int .i64 0],.slice B (bX0 p.pair).length bc,.int .i64 0,.pointer (some ⟨w.heap.size,1,none⟩),.slice A p.steps.length n,.func (.func 108) #[] #[.pointer (some ⟨w1.heap.size+1,0,none⟩)],.int .i64 ((x.1:Nat):Int),.agg #[.int .i64 (p.steps[x.1]'x.2).bit,.bool (p.steps[x.1]'x.2).right,.slice (Aj x.1) (p.steps[x.1]'x.2).other.length (cj x.1)],undef,undef,undef,undef,undef,undef,undef,undef,undef,undef,undef,undef,undef,undef,undef,undef,undef,undef,undef,undef,undef,undef,undef,undef,undef,undef],defers:=[] })
  (fun x a' _ X Y row hs hg hr=>by obtain⟨Bx,h1,h2,h3⟩:=hs;exact⟨Bx,h1,dL9 h2 hg (fun r e=>(hr r e).2),h3⟩)
  ?assign ?body ?done ?stop
 case assign =>
  rintro l pre x W K ⟨⟨Bd,bd,h1,h2⟩,h3,h4⟩ hK
  have hlt:=(Array.getElem?_eq_some_iff.1 h1).1
  unfold dK7
  gi_wp2
  exact hK _ _ ((KeepsOthers.alloc _ _).from _) ((aC.refl _ _).alloc _) ⟨⟨Bd,bd,(dK2 _ _ hlt).trans h1,h2.bsame ((aC.refl _ _).alloc _)⟩,h3.alloc h3.size _,by simp;omega⟩ ⟨W.heap.size,h4,aK W _ _,rfl⟩
 case body =>
  rintro l pre x a' W hl ⟨r,hr⟩ ⟨⟨Bd,bd,h1,h2⟩,h3,h4⟩ ⟨Bx,hBx,bX,rfl⟩ hlt
  obtain⟨⟨hb1,hb2⟩,ho⟩:=Hs.out x.1 x.2
  have Hx:=zh (HBj.out x.1 x.2)
  have Hsn:=zh (dL6 p pre x)
  have Hul:=zh (upTo_len p pre)
  generalize p.steps[x.1]'x.2=st at *
  obtain⟨d,hd⟩:∃ d:Nat,st.bit=(d:Int):=⟨st.bit.toNat,AO⟩
  obtain⟨sb,sr,so⟩:=st
  simp only[] at hd hb1 hb2 ho
  subst hd
  have mk:IntKind.u8.wrap (d:Int)=(d:Int):=IntWalk.u8_in _ AO
  have Hbv:=zh (bv_bit (d:=d) AO)
  have Ho:=zh ho
  have hDl:=(Array.getElem?_eq_some_iff.1 h1).1
  have hBl:=(Array.getElem?_eq_some_iff.1 bX).1
  have q0:=aA (cs:=[_]) h1 0
  have q1:=aD (cs:=[_]) h1 0
  simp only[List.getElem?_cons_zero] at q0
  obtain⟨c0,c1,c2,_⟩:=box3p bX
  have H2:=zh h2
  clear ho hb1 hb2
  cases sr with
  | true =>
   have He:=zh (show dL5 p (pre++[x])=bQ1 (d:Int) so (dL5 p pre) from Hsn.out.trans (by simp[dL3]))
   gi_wp2_with (first
    | (refine⟨trivial,?_⟩;gi_at_call 57;(with_reducible refine (CallsIn.inRound l (callsIn_wide.2 (cA7 _ ?t1 _ d so (dL5 p pre) _ ?t2 (by rw[Ho.out,Hul.out];omega)))).mono ?_);(case t1=>(refine HT.out.below ?_;exact BX));(case t2=>(refine cU4 (x:=[UInt8.ofNat (d:Int).toNat]) (a:=1) (cM2 _ _ ZH2) (bs_one ((dK2 _ _ ZH2).trans (by rw[← Hbv.out];exact cM2 _ _ ZH2))) (Hx.out.bbelow ?_) ((H2.out.bz).bsame SM) (by simp[big]) (by rw[Ho.out];simp[big]) (by rw[Hul.out];simp[big]);exact BX));rintro e5 w5 ⟨Z,z,rfl,hsz,hb5⟩;have hbW:Below W.heap.size W w5:=(Below.next BX hb5 ZC8);have hD5:=(hbW.block _ hDl).trans h1;have v0:=aA (cs:=[_]) hD5 0;have v1:=aD (cs:=[_]) hD5 0;simp only[List.getElem?_cons_zero] at v0))
   refine⟨(dM0 hbW).trans ((KeepsOthers.setCell _ _ _).from _),(aC.of_below hbW).setCell (fun h=>h.2 rfl) _,⟨⟨Z,z,?_,?_⟩,?_,?_⟩⟩
   ·rw[He.out,heap_setCell_same _ _ _ _ _ _ hD5]
    rfl
   ·rw[He.out]
    exact (hsz.bsame ((aC.refl _ _).setCell (fun h=>by simp only[aB] at h;simp at h;omega) _)).blo (by have:=h3.size;simp;omega)
   ·exact (h3.next hbW h3.size).setCell (by have:=h3.size;simp only[];omega) _
   ·have:=hbW.size
    simp
    omega
  | false =>
   have He:=zh (show dL5 p (pre++[x])=bQ1 (d:Int) (dL5 p pre) so from Hsn.out.trans (by simp[dL3]))
   gi_wp2_with (first
    | (refine⟨trivial,?_⟩;gi_at_call 57;(with_reducible refine (CallsIn.inRound l (callsIn_wide.2 (cA7 _ ?t1 _ d (dL5 p pre) so _ ?t2 (by rw[Ho.out,Hul.out];omega)))).mono ?_);(case t1=>(refine HT.out.below ?_;exact BX));(case t2=>(refine cU4 (x:=[UInt8.ofNat (d:Int).toNat]) (a:=1) (cM2 _ _ ZH2) (bs_one ((dK2 _ _ ZH2).trans (by rw[← Hbv.out];exact cM2 _ _ ZH2))) ((H2.out.bz).bsame SM) (Hx.out.bbelow ?_) (by simp[big]) (by rw[Hul.out];simp[big]) (by rw[Ho.out];simp[big]);exact BX));rintro e5 w5 ⟨Z,z,rfl,hsz,hb5⟩;have hbW:Below W.heap.size W w5:=(Below.next BX hb5 ZC8);have hD5:=(hbW.block _ hDl).trans h1;have v0:=aA (cs:=[_]) hD5 0;have v1:=aD (cs:=[_]) hD5 0;simp only[List.getElem?_cons_zero] at v0))
   refine⟨(dM0 hbW).trans ((KeepsOthers.setCell _ _ _).from _),(aC.of_below hbW).setCell (fun h=>h.2 rfl) _,⟨⟨Z,z,?_,?_⟩,?_,?_⟩⟩
   ·rw[He.out,heap_setCell_same _ _ _ _ _ _ hD5]
    rfl
   ·rw[He.out]
    exact (hsz.bsame ((aC.refl _ _).setCell (fun h=>by simp only[aB] at h;simp at h;omega) _)).blo (by have:=h3.size;simp;omega)
   ·exact (h3.next hbW h3.size).setCell (by have:=h3.size;simp only[];omega) _
   ·have:=hbW.size
    simp
    omega
 case done =>
  rintro D zs W hD rfl ⟨⟨Bd,bd,h1,h2⟩,h3,h4⟩ hK
  have q0:=aA (cs:=[_]) h1 0
  simp only[List.getElem?_cons_zero] at q0
  have Hu:=zh (show dL5 p (dK4 p.steps.length)=upS p by rw[upTo_all,upS,he];rfl)
  rw[Hu.out] at q0
  gi_wp2
  refine⟨by simp,.inl ⟨_,_,rfl,run_takeDeferred hK,?_⟩⟩
  refine⟨_,results_tmp rfl _ _ _,⟨Bd,bd,rfl,?_,?_⟩⟩
  ·rw[Hu.out] at h2
   exact dL8 h2 (grownBy_putObj' W D (.deferred none)) (fun r e=>by cases e;exact⟨_,hK,rfl⟩)
  ·exact h3.trans (belowK_b (w:=W0) AO W D _ _ hD hK rfl rfl)
 case stop =>
  rintro D c pre W _ _ h _
  exact h.elim
end Go.Proofs.YtodopbnhkkkcbaaGreatDoor
namespace Go.Proofs.YtodopbnhkkkcbaaGreatDoor
open Go.RowKit
set_option linter.unusedVariables false
set_option linter.unusedSimpArgs false
set_option maxRecDepth 100000
set_option maxHeartbeats 8000000
theorem dM1 (w:World) (A B:Option Addr) (a b:List UInt8) (c d:Nat) (ha:Bs All w A a) (hb:Bs All w B b) :
  Calls Tryz.prog 55 #[.slice A a.length c,.slice B b.length d] w fun e w'=>e=.returned (.bool (a==b))∧w=w':=by
 have h1:=bE2 ha 27 9 5 c Tryz.underlying27 Tryz.underlying5 Tryz.underlying9
 have h2:=bE2 hb 27 9 5 d Tryz.underlying27 Tryz.underlying5 Tryz.underlying9
 clear ha hb
 go_enter Tryz.func55,Tryz.ntmps55
 go_wp2
 go_ret
 exact⟨rfl,rfl⟩
theorem dM2 {p:Pf} (h:p.empty=true):upS p=noneS:=by unfold upS;rw[if_pos h]
theorem upS_full {p:Pf} (h:p.empty=false):upS p=p.steps.foldr dL3 (bX0 p.pair):=by unfold upS;rw[h];rfl
theorem dM3 {k:List UInt8} {p:Pf} (h:dG9 k p=0) (he:p.empty=false):aA5 p.pair=0∧∀ j (hj:j<p.steps.length),(0≤p.steps[j].bit∧p.steps[j].bit≤144)∧p.steps[j].other.length=32:=by
 unfold dG9 at h
 split at h
 ·rename_i h1;exact absurd h h1
 ·unfold dG8 at h
  rw[he,if_neg ZH2] at h
  split at h
  ·cases h
  ·rename_i h2
   rw[Decidable.not_not] at h2
   refine⟨h2,fun j hj=>?_⟩
   have h3:=aI0 p.steps.length 0 h j hj
   rw[Nat.zero_add,dH1 _ _ hj] at h3
   split at h3
   ·cases h3
   ·rename_i h4
    unfold dG4 at h4
    simp only[Bool.not_eq_true,Bool.or_eq_false_iff,Bool.not_eq_false',Bool.and_eq_true,decide_eq_true_eq,bne_eq_false_iff_eq] at h4
    exact⟨h4.1.1.1.1,h4.1.1.1.2⟩
theorem dM4 (w:World) (hT:bD w):Calls Tryz.prog 36 #[.slice none 0 0] w (bD2 w (noneS,0)):=aQ3 w hT none [] 0 SL.nil zn
theorem up_none (w:World) (hT:bD w) (A K V:Option Addr) (p:Pf) (n a b:Nat) (he:p.empty=true) :
  Calls Tryz.prog 56 #[.agg #[.bool true,.slice A p.steps.length n,.slice K p.pair.1.length a,.slice V p.pair.2.length b]] w (bU7 w (upS p)):=by
 have HT:=zh hT
 have Hu:=zh (dM2 he)
 clear hT he
 go_enter Tryz.func56,Tryz.ntmps56
 go_wp2_with ((go_at_call 36;(with_reducible refine (dM4 _ ?t1).mono ?_);(case t1=>(refine HT.out.below ?_;exact BX));rintro e1 w1 ⟨B,b,rfl,hs1,hb1⟩))
 go_ret
 rw[Hu.out]
 exact⟨B,b,rfl,hs1.blo ZH2,Below.next BX hb1 ZH2⟩
theorem dM5 (w:World) (hT:bD w) (A K V:Option Addr) (p:Pf) (k:List UInt8) (n a b:Nat) (ha:Sts All w A p.steps) (hK:Bs All w K p.pair.1) (hV:Bs All w V p.pair.2) (hf:dG9 k p=0) (hst:p.steps.length*40≤140737488355328) :
  Calls Tryz.prog 56 #[.agg #[.bool p.empty,.slice A p.steps.length n,.slice K p.pair.1.length a,.slice V p.pair.2.length b]] w (bU7 w (upS p)):=by
 cases he:p.empty with
 | true=>exact up_none w hT A K V p n a b he
 | false =>
  obtain⟨h1,h2⟩:=dM3 hf he
  exact up_ok w hT A K V p n a b ha hK hV he h1 hst h2
def dM6 (r k:List UInt8) (p:Pf):Finding × Int :=
 if r.length≠32 then ((false,[]),1) else if dG9 k p≠0 then ((false,[]),dG9 k p) else if upS p≠r then ((false,[]),8) else if p.empty=true∨p.pair.1≠k then ((false,[]),0) else ((true,p.pair.2),0)
theorem dM7 (w:World) (hT:bD w) (R D A K V:Option Addr) (r k:List UInt8) (p:Pf) (rc dc n a b:Nat) (hr:Bs All w R r) (hd:Bs All w D k) (ha:Sts All w A p.steps) (hK:Bs All w K p.pair.1) (hV:Bs All w V p.pair.2) (hst:p.steps.length*40≤140737488355328) (hl1:p.pair.1.length≤big) (hl2:p.pair.2.length≤big) :
  Calls Tryz.prog 35 #[.slice R r.length rc,.slice D k.length dc,.agg #[.bool p.empty,.slice A p.steps.length n,.slice K p.pair.1.length a,.slice V p.pair.2.length b]] w (RetGet w (dM6 r k p)):=by
 have HT:=zh hT
 have HR:=zh hr
 have HD:=zh hd
 have HA:=zh ha
 have HK:=zh hK
 have HV:=zh hV
 have Hb:=zh (fun (W:World) (hW:Below (w.heap.size+2) ((w.alloc (.cells #[.bool p.empty,.slice A p.steps.length n,.slice K p.pair.1.length a,.slice V p.pair.2.length b] 46)).alloc (.cells #[.bool false,.slice none 0 0] 50)) W)=>show ((W.cell? ⟨w.heap.size,0,none⟩=some (.bool p.empty)∧W.cell? ⟨w.heap.size,1,none⟩=some (.slice A p.steps.length n)∧W.cell? ⟨w.heap.size,2,none⟩=some (.slice K p.pair.1.length a)∧W.cell? ⟨w.heap.size,3,none⟩=some (.slice V p.pair.2.length b)∧True)∧(W.cell? ⟨w.heap.size+1,0,none⟩=some (.bool false)∧W.cell? ⟨w.heap.size+1,1,none⟩=some (.slice none 0 0)∧W.frozen? ⟨w.heap.size+1,0,none⟩=false∧W.frozen? ⟨w.heap.size+1,1,none⟩=false)∧Below w.heap.size w W∧w.heap.size<W.heap.size∧w.heap.size+1<W.heap.size) from by
  obtain⟨t1,t2,t3,t4⟩:=cS1 w (.cells #[.bool p.empty,.slice A p.steps.length n,.slice K p.pair.1.length a,.slice V p.pair.2.length b] 46) (.cells #[.bool false,.slice none 0 0] 50)
  obtain⟨z0,z1,z2,z3,_⟩:=aF3 ((hW.block w.heap.size AO).trans t1)
  have hs:=hW.size
  exact⟨⟨z0,z1,z2,z3,trivial⟩,bF ((hW.block (w.heap.size+1) AO).trans t2),t4.trans (hW.mono AO),AO,AO⟩)
 clear hr hd ha hK hV hT
 by_cases h32:r.length=32
 ·have Hr32:=zh h32
  obtain⟨ff,hff⟩:∃ ff,dG9 k p=ff:=⟨_,rfl⟩
  have Hf:=zh hff
  have e32:((r.length:Int) != 32)=false:=by simp[h32]
  by_cases hz:ff=0
  ·subst hz
   clear h32
   by_cases hE:p.empty=true
   ·have HE:=zh hE
    by_cases hu:upS p=r
    ·have Hu:=zh (show (upS p==r)=true by simpa using hu)
     have Hv:=zh (show dM6 r k p=((false,[]),0) by unfold dM6;rw[if_neg (by rw[Hr32.out];simp),if_neg (by rw[hff];simp),if_neg (by simpa using hu),if_pos (.inl hE)])
     clear hff hE hu
     go_enter Tryz.func35,Tryz.ntmps35
     go_wp2_with (first
      | (go_at_call 54;(with_reducible refine (dI3 _ D k dc A K V p n a b ?t1 ?t2 ?t3 ?t4 hst hl1 hl2).mono ?_);(case t1=>(refine HD.out.bbelow ?_;exact BX));(case t2=>(refine HA.out.below stR_stays ?_;exact BX));(case t3=>(refine HK.out.bbelow ?_;exact BX));(case t4=>(refine HV.out.bbelow ?_;exact BX));rintro e1 w1 ⟨rfl,hb1'⟩;have hb1:=hb1'.mono (show w.heap.size+2≤_ by simp);obtain⟨⟨p0,p1,p2,p3,_⟩,⟨f0,f1,f2,f3⟩,hq1,hl1a,hl1b⟩:=Hb.out w1 hb1;rw[Hf.out])
      | (go_at_call 56;(with_reducible refine (dM5 _ ?t1 A K V p k n a b ?t2 ?t3 ?t4 Hf.out hst).mono ?_);(case t1=>exact HT.out.below hq1);(case t2=>exact HA.out.below stR_stays hq1);(case t3=>exact HK.out.bbelow hq1);(case t4=>exact HV.out.bbelow hq1);rintro e2 w2 ⟨U,u,rfl,hsu,hb2'⟩;have hb2:=hb1.next hb2' AO;obtain⟨⟨p0,p1,p2,p3,_⟩,⟨f0,f1,f2,f3⟩,hq2,hl2a,hl2b⟩:=Hb.out w2 hb2)
      | (go_at_call_of 55 U;(with_reducible refine (dM1 _ U R (upS p) r u rc ?s1 ?s2).mono ?_);(case s1=>exact hsu.bz);(case s2=>exact HR.out.bbelow hq2);rintro e4 w4 ⟨rfl,rfl⟩;rw[Hu.out];have he:=HE.out))
     all_goals
      refine bodyPost_ret (v:=.tuple #[.agg #[.bool false,.slice none 0 0],.int .i64 0]) ZG7 rfl ?_
      rw[Hv.out]
      exact ZA2
    ·have Hu:=zh (show (upS p==r)=false by simpa using hu)
     have Hv:=zh (show dM6 r k p=((false,[]),8) by unfold dM6;rw[if_neg (by rw[Hr32.out];simp),if_neg (by rw[hff];simp),if_pos hu])
     clear hff hE hu
     go_enter Tryz.func35,Tryz.ntmps35
     go_wp2_with (first
      | (go_at_call 54;(with_reducible refine (dI3 _ D k dc A K V p n a b ?t1 ?t2 ?t3 ?t4 hst hl1 hl2).mono ?_);(case t1=>(refine HD.out.bbelow ?_;exact BX));(case t2=>(refine HA.out.below stR_stays ?_;exact BX));(case t3=>(refine HK.out.bbelow ?_;exact BX));(case t4=>(refine HV.out.bbelow ?_;exact BX));rintro e1 w1 ⟨rfl,hb1'⟩;have hb1:=hb1'.mono (show w.heap.size+2≤_ by simp);obtain⟨⟨p0,p1,p2,p3,_⟩,⟨f0,f1,f2,f3⟩,hq1,hl1a,hl1b⟩:=Hb.out w1 hb1;rw[Hf.out])
      | (go_at_call 56;(with_reducible refine (dM5 _ ?t1 A K V p k n a b ?t2 ?t3 ?t4 Hf.out hst).mono ?_);(case t1=>exact HT.out.below hq1);(case t2=>exact HA.out.below stR_stays hq1);(case t3=>exact HK.out.bbelow hq1);(case t4=>exact HV.out.bbelow hq1);rintro e2 w2 ⟨U,u,rfl,hsu,hb2'⟩;have hb2:=hb1.next hb2' AO;obtain⟨⟨p0,p1,p2,p3,_⟩,⟨f0,f1,f2,f3⟩,hq2,hl2a,hl2b⟩:=Hb.out w2 hb2)
      | (go_at_call_of 55 U;(with_reducible refine (dM1 _ U R (upS p) r u rc ?s1 ?s2).mono ?_);(case s1=>exact hsu.bz);(case s2=>exact HR.out.bbelow hq2);rintro e4 w4 ⟨rfl,rfl⟩;rw[Hu.out];have he:=HE.out))
     all_goals
      refine bodyPost_ret (v:=.tuple #[.agg #[.bool false,.slice none 0 0],.int .i64 8]) ZG7 rfl ?_
      rw[Hv.out]
      exact ZA2
   ·have HE:=zh (show p.empty=false by simpa using hE)
    have Hfine:=zh (dM3 hff HE.out)
    by_cases hu:upS p=r
    ·have Hu:=zh (show (upS p==r)=true by simpa using hu)
     by_cases hk:p.pair.1=k
     ·have Hkk:=zh (show (p.pair.1==k)=true by simpa using hk)
      have Hv:=zh (show dM6 r k p=((true,p.pair.2),0) by unfold dM6;rw[if_neg (by rw[Hr32.out];simp),if_neg (by rw[hff];simp),if_neg (by simpa using hu),if_neg (by simp[hE,hk])])
      clear hff hE hu hk
      go_enter Tryz.func35,Tryz.ntmps35
      go_wp2_with (first
      | (go_at_call 54;(with_reducible refine (dI3 _ D k dc A K V p n a b ?t1 ?t2 ?t3 ?t4 hst hl1 hl2).mono ?_);(case t1=>(refine HD.out.bbelow ?_;exact BX));(case t2=>(refine HA.out.below stR_stays ?_;exact BX));(case t3=>(refine HK.out.bbelow ?_;exact BX));(case t4=>(refine HV.out.bbelow ?_;exact BX));rintro e1 w1 ⟨rfl,hb1'⟩;have hb1:=hb1'.mono (show w.heap.size+2≤_ by simp);obtain⟨⟨p0,p1,p2,p3,_⟩,⟨f0,f1,f2,f3⟩,hq1,hl1a,hl1b⟩:=Hb.out w1 hb1;rw[Hf.out])
      | (go_at_call 56;(with_reducible refine (dM5 _ ?t1 A K V p k n a b ?t2 ?t3 ?t4 Hf.out hst).mono ?_);(case t1=>exact HT.out.below hq1);(case t2=>exact HA.out.below stR_stays hq1);(case t3=>exact HK.out.bbelow hq1);(case t4=>exact HV.out.bbelow hq1);rintro e2 w2 ⟨U,u,rfl,hsu,hb2'⟩;have hb2:=hb1.next hb2' AO;obtain⟨⟨p0,p1,p2,p3,_⟩,⟨f0,f1,f2,f3⟩,hq2,hl2a,hl2b⟩:=Hb.out w2 hb2)
      | (go_at_call_of 55 U;(with_reducible refine (dM1 _ U R (upS p) r u rc ?s1 ?s2).mono ?_);(case s1=>exact hsu.bz);(case s2=>exact HR.out.bbelow hq2);rintro e4 w4 ⟨rfl,rfl⟩;rw[Hu.out];have he:=HE.out)
      | (go_at_call_of 55 K;(with_reducible refine (dM1 _ K D p.pair.1 k a dc ?s1 ?s2).mono ?_);(case s1=>exact HK.out.bbelow hq2);(case s2=>exact HD.out.bbelow hq2);rintro e4 w4 ⟨rfl,rfl⟩;rw[Hkk.out])
      | (go_at_call 39;(with_reducible refine (aE2 _ V p.pair.2 b ?t1 hl2).mono ?_);(case t1=>exact HV.out.bbelow hq2);rintro e5 w5 ⟨Z,z,rfl,hsz,hb5'⟩;have hb5:=hb2.next hb5' AO;obtain⟨⟨p0,p1,p2,p3,_⟩,⟨f0,f1,f2,f3⟩,hq5,hl5a,hl5b⟩:=Hb.out w5 hb5))
      all_goals
       refine bodyPost_ret (v:=.tuple #[.agg #[.bool true,.slice Z p.pair.2.length z],.int .i64 0]) ZG7 rfl ?_
       rw[Hv.out]
       refine⟨Z,z,rfl,?_,?_⟩
       ·exact (hsz.bsame (((aC.refl _ _).setCell ZC4 _).setCell ZC4 _)).blo hq2.size
       ·exact (hq5.setCell ZC5 _).setCell ZC5 _
     ·have Hkk:=zh (show (p.pair.1==k)=false by simpa using hk)
      have Hv:=zh (show dM6 r k p=((false,[]),0) by unfold dM6;rw[if_neg (by rw[Hr32.out];simp),if_neg (by rw[hff];simp),if_neg (by simpa using hu),if_pos (.inr hk)])
      clear hff hE hu hk
      go_enter Tryz.func35,Tryz.ntmps35
      go_wp2_with (first
      | (go_at_call 54;(with_reducible refine (dI3 _ D k dc A K V p n a b ?t1 ?t2 ?t3 ?t4 hst hl1 hl2).mono ?_);(case t1=>(refine HD.out.bbelow ?_;exact BX));(case t2=>(refine HA.out.below stR_stays ?_;exact BX));(case t3=>(refine HK.out.bbelow ?_;exact BX));(case t4=>(refine HV.out.bbelow ?_;exact BX));rintro e1 w1 ⟨rfl,hb1'⟩;have hb1:=hb1'.mono (show w.heap.size+2≤_ by simp);obtain⟨⟨p0,p1,p2,p3,_⟩,⟨f0,f1,f2,f3⟩,hq1,hl1a,hl1b⟩:=Hb.out w1 hb1;rw[Hf.out])
      | (go_at_call 56;(with_reducible refine (dM5 _ ?t1 A K V p k n a b ?t2 ?t3 ?t4 Hf.out hst).mono ?_);(case t1=>exact HT.out.below hq1);(case t2=>exact HA.out.below stR_stays hq1);(case t3=>exact HK.out.bbelow hq1);(case t4=>exact HV.out.bbelow hq1);rintro e2 w2 ⟨U,u,rfl,hsu,hb2'⟩;have hb2:=hb1.next hb2' AO;obtain⟨⟨p0,p1,p2,p3,_⟩,⟨f0,f1,f2,f3⟩,hq2,hl2a,hl2b⟩:=Hb.out w2 hb2)
      | (go_at_call_of 55 U;(with_reducible refine (dM1 _ U R (upS p) r u rc ?s1 ?s2).mono ?_);(case s1=>exact hsu.bz);(case s2=>exact HR.out.bbelow hq2);rintro e4 w4 ⟨rfl,rfl⟩;rw[Hu.out];have he:=HE.out)
      | (go_at_call_of 55 K;(with_reducible refine (dM1 _ K D p.pair.1 k a dc ?s1 ?s2).mono ?_);(case s1=>exact HK.out.bbelow hq2);(case s2=>exact HD.out.bbelow hq2);rintro e4 w4 ⟨rfl,rfl⟩;rw[Hkk.out]))
      all_goals
       refine bodyPost_ret (v:=.tuple #[.agg #[.bool false,.slice none 0 0],.int .i64 0]) ZG7 rfl ?_
       rw[Hv.out]
       exact ZA2
    ·have Hu:=zh (show (upS p==r)=false by simpa using hu)
     have Hv:=zh (show dM6 r k p=((false,[]),8) by unfold dM6;rw[if_neg (by rw[Hr32.out];simp),if_neg (by rw[hff];simp),if_pos hu])
     clear hff hE hu
     go_enter Tryz.func35,Tryz.ntmps35
     go_wp2_with (first
      | (go_at_call 54;(with_reducible refine (dI3 _ D k dc A K V p n a b ?t1 ?t2 ?t3 ?t4 hst hl1 hl2).mono ?_);(case t1=>(refine HD.out.bbelow ?_;exact BX));(case t2=>(refine HA.out.below stR_stays ?_;exact BX));(case t3=>(refine HK.out.bbelow ?_;exact BX));(case t4=>(refine HV.out.bbelow ?_;exact BX));rintro e1 w1 ⟨rfl,hb1'⟩;have hb1:=hb1'.mono (show w.heap.size+2≤_ by simp);obtain⟨⟨p0,p1,p2,p3,_⟩,⟨f0,f1,f2,f3⟩,hq1,hl1a,hl1b⟩:=Hb.out w1 hb1;rw[Hf.out])
      | (go_at_call 56;(with_reducible refine (dM5 _ ?t1 A K V p k n a b ?t2 ?t3 ?t4 Hf.out hst).mono ?_);(case t1=>exact HT.out.below hq1);(case t2=>exact HA.out.below stR_stays hq1);(case t3=>exact HK.out.bbelow hq1);(case t4=>exact HV.out.bbelow hq1);rintro e2 w2 ⟨U,u,rfl,hsu,hb2'⟩;have hb2:=hb1.next hb2' AO;obtain⟨⟨p0,p1,p2,p3,_⟩,⟨f0,f1,f2,f3⟩,hq2,hl2a,hl2b⟩:=Hb.out w2 hb2)
      | (go_at_call_of 55 U;(with_reducible refine (dM1 _ U R (upS p) r u rc ?s1 ?s2).mono ?_);(case s1=>exact hsu.bz);(case s2=>exact HR.out.bbelow hq2);rintro e4 w4 ⟨rfl,rfl⟩;rw[Hu.out];have he:=HE.out))
     all_goals
      refine bodyPost_ret (v:=.tuple #[.agg #[.bool false,.slice none 0 0],.int .i64 8]) ZG7 rfl ?_
      rw[Hv.out]
      exact ZA2
  ·have Hv:=zh (show dM6 r k p=((false,[]),ff) by unfold dM6;rw[if_neg (by simpa using h32),if_pos (by rw[hff];exact hz),hff])
   have hb:(ff != 0)=true:=by simpa using hz
   clear hff hz h32
   go_enter Tryz.func35,Tryz.ntmps35
   go_wp2_with ((go_at_call 54;(with_reducible refine (dI3 _ D k dc A K V p n a b ?t1 ?t2 ?t3 ?t4 hst hl1 hl2).mono ?_);(case t1=>(refine HD.out.bbelow ?_;exact BX));(case t2=>(refine HA.out.below stR_stays ?_;exact BX));(case t3=>(refine HK.out.bbelow ?_;exact BX));(case t4=>(refine HV.out.bbelow ?_;exact BX));rintro e1 w1 ⟨rfl,hb1'⟩;have hb1:=hb1'.mono (show w.heap.size+2≤_ by simp);obtain⟨⟨p0,p1,p2,p3,_⟩,⟨f0,f1,f2,f3⟩,hq1,hl1a,hl1b⟩:=Hb.out w1 hb1;rw[Hf.out]))
   all_goals
    refine bodyPost_ret (v:=.tuple #[.agg #[.bool false,.slice none 0 0],.int .i64 ff]) ZG7 rfl ?_
    rw[Hv.out]
    exact ZA2
 ·have Hv:=zh (show dM6 r k p=((false,[]),1) by unfold dM6;rw[if_pos h32])
  have e32:((r.length:Int) != 32)=true:=by simp;omega
  clear h32
  go_enter Tryz.func35,Tryz.ntmps35
  go_wp2
  all_goals
   refine bodyPost_ret (v:=.tuple #[.agg #[.bool false,.slice none 0 0],.int .i64 1]) (by simp[results,Tryz.results35,go_sem]) rfl ?_
   rw[Hv.out]
   exact ZA2
end Go.Proofs.YtodopbnhkkkcbaaGreatDoor
