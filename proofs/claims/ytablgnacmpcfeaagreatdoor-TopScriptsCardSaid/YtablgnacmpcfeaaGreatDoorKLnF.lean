/- LnF: The iterator strings.Lines: its contract. It keeps its state in a box of its own. No condition but the text's length. A loop over strings.Lines: what its rounds keep, what stands behind it. The iterator's own box is turned in every round. Walk: lines.Read. The law LinesReads: both answer what the plain words say. The variables that reading lines reads, as the walks' facts; a row's step where the world's shape is wanted too. The conditions of each are in its words. -/
import Derived.RangeFuncNested
import Derived.RangeFuncBound
import Derived.RangeFuncCalls
import Derived.RangeFuncLeaves
import Derived.RangeFuncBox
import Derived.Shelf.Abstract
import Derived.Shelf.RegionOpen
import Derived.OwnWalkIn
import Derived.TacticsInMore
import Derived.LoopNIn
import Derived.LoopIn
import Derived.Handed
import Derived.Shelf.Vars
import Derived.Stop.LaidErr
import Derived.Test.YtablgnacmpcfeaaGreatDoorKLnD
import Derived.Test.YtablgnacmpcfeaaGreatDoorKLnB
import Derived.Test.YtablgnacmpcfeaaGreatDoorKLnC
namespace Go.Proofs.YtablgnacmpcfeaaGreatDoor
open Go.RowKit Go.Shelf
set_option linter.unusedVariables false
set_option linter.unusedSimpArgs false
set_option maxRecDepth 100000
set_option maxHeartbeats 8000000
attribute [local go_sem] Oper.semAt_some
theorem idx_line:∀ r:List UInt8,(Lib.indexByte r 10=-1∧(10:UInt8) ∉ r)∨∃ k:Nat,Lib.indexByte r 10=k∧k<r.length∧r=r.take k++10 :: r.drop (k+1)∧(10:UInt8) ∉ r.take k
 | []=>.inl ⟨rfl,by simp⟩
 | b :: l=>by
  unfold Lib.indexByte
  by_cases hb:b=10
  ·exact .inr ⟨0,by simp[hb],by simp,by simp[hb],by simp⟩
  ·rcases idx_line l with ⟨h1,h2⟩|⟨k,h1,h2,h3,h4⟩
   ·refine .inl ⟨by simp[hb,h1],?_⟩
    intro h9
    rcases List.mem_cons.1 h9 with h9|h9
    ·exact hb h9.symm
    ·exact h2 h9
   ·refine .inr ⟨k+1,by rw[h1];simp[hb],by simpa using h2,by simp;exact h3,?_⟩
    intro h9
    rw[List.take_succ_cons] at h9
    rcases List.mem_cons.1 h9 with h9|h9
    ·exact hb h9.symm
    ·exact h4 h9
theorem line_one {r:List UInt8} (hne:r≠[]):(Lib.indexByte r 10=-1∧linesOf r=r :: linesOf [])∨∃ k:Nat,Lib.indexByte r 10=k∧k<r.length∧linesOf r=r.take (k+1) :: linesOf (r.drop (k+1)):=by
 rcases idx_line r with ⟨h1,h2⟩|⟨k,h1,h2,h3,h4⟩
 ·exact .inl ⟨h1,by rw[linesOf_one h2 hne];rfl⟩
 ·refine .inr ⟨k,h1,h2,?_⟩
  have h5:r.take (k+1)=r.take k++[10]:=by
   rw[aC8 r k h2]
   congr 2
   have h6:r[k]?=some 10:=by
    rw[h3,List.getElem?_append_right (by simp[List.length_take];omega)]
    simp[List.length_take,Nat.min_eq_left (Nat.le_of_lt h2)]
   obtain⟨_,e⟩:=List.getElem?_eq_some_iff.1 h6
   exact e
  rw[h5]
  conv=>lhs;rw[h3,linesOf_app h4]
def eF7 (W:World) (B:Nat):Nat:=match W.cell? ⟨B,0,none⟩ with
 | some (.string s)=>s.size
 | _=>0
theorem eF8 (n:Nat) (hn:1≤n) (k0 B:Nat) (J:List (List UInt8)→List UInt8→World→Prop) (Jx:World→Prop)
  (hJc:∀ pre r W,J pre r W→W.cell? ⟨B,0,none⟩=some (.string ⟨r.toArray⟩)∧W.frozen? ⟨B,0,none⟩=false)
  (hJd:∀ pre r W,J pre r W→J pre r W.drew)
  (hY:∀ pre r0 x r W,J pre r0 W→r0.length≤2000000→linesOf r0=x :: linesOf r→YieldAt Fence.wide (n - 1) Tryz.prog k0 #[.string ⟨x.toArray⟩] (W.setCell ⟨B,0,none⟩ (.string ⟨r.toArray⟩)) fun e W' =>
   (e=.returned (.bool true)∧J (pre++[x]) r W')∨(e=.returned (.bool false)∧Jx W'))
  (t:List UInt8) (ht:t.length≤2000000) (W:World) (h0:J [] t W) :
  CallsIn Fence.wide n Tryz.prog 98 #[.func (.yield k0) #[] #[],.pointer (some ⟨B,0,none⟩)] W fun e W'=>(∃ v,e=.returned v)∧(J (linesOf t) [] W'∨Jx W'):=by
 refine callsIn_of_wp Tryz.func98 rfl trivial ?_ rfl
 simp only[Tryz.ntmps98,List.size_toArray,List.length_cons,List.length_nil,Nat.reduceAdd,Nat.reduceSub,Array.replicate_succ,Array.replicate_zero,List.push_toArray,List.append_toArray,List.nil_append,List.cons_append]
 gi_wp2
 gi_loopw [3,4] (fun _ _ wr=>∃ (pre:List (List UInt8)) (r:List UInt8),linesOf t=pre++linesOf r∧r.length≤2000000∧J pre r wr) (fun _ _ wr=>eF7 wr B)
 case atStart=>exact⟨[],t,rfl,ht,h0⟩
 case round =>
  obtain⟨pre,r,hlr,hrl,hJ⟩:=hrel
  obtain⟨q0,f0⟩:=hJc _ _ _ hJ
  obtain⟨S,hS⟩:∃ S:ByteArray,S=⟨r.toArray⟩:=⟨_,rfl⟩
  rw[← hS] at q0
  have hz:S.size=r.length:=by rw[hS,eB7]
  have HS:=zh (show S.data.toList=r from by rw[hS])
  clear hS
  have Hz:=zh hz
  by_cases hne:r=[]
  ·have b1:decide ((0:Int)<(S.size:Int))=false:=by rw[hz,hne];rfl
   have hl0:¬ 0<S.size:=by rw[hz,hne];simp
   clear hz
   subst hne
   rw[show linesOf []=[] from rfl,List.append_nil] at hlr
   have Hlr:=zh hlr
   clear hlr
   gi_wp2
   go_end0
   exact⟨⟨_,rfl⟩,.inl (by rw[Hlr.out];exact hJ)⟩
  ·have hpos:0<r.length:=List.length_pos_iff.2 hne
   have b1:decide ((0:Int)<(S.size:Int))=true:=by rw[hz];simp;omega
   have hl0:0<S.size:=by rw[hz];exact hpos
   have hl0i:(0:Int)<(S.size:Int):=by rw[hz];omega
   rcases line_one hne with ⟨h1,h2⟩|⟨k,h1,h2,h3⟩
   ·have hidx:Lib.indexByte S.data.toList (10:Int).toNat.toUInt8=-1:=by rw[HS.out];exact h1
    obtain⟨fn,tmps,assign,body,hy0,hR⟩:=hY pre r r [] wr hJ hrl h2
    have hy:(Instr.yield k0 #[.string S]).run Tryz.prog (wr.setCell ⟨B,0,none⟩ (.string ⟨#[]⟩))=.ok (.round k0 fn tmps assign body) (wr.setCell ⟨B,0,none⟩ (.string ⟨#[]⟩)):=by
     rw[show S=⟨r.toArray⟩ from by rw[← HS.out]]
     exact hy0
    have HR:=zh hR
    have Hlr:=zh (show linesOf t=(pre++[r])++linesOf [] by rw[hlr,h2];simp)
    clear hz h1 h2 hlr hy0 hR
    gi_wp2_with (refine⟨trivial,?_⟩;gi_at_call 99;refine (callsIn_wide.2 (Tryz.strings_IndexByte S 10 _)).mono ?_;rintro e w1 ⟨rfl,rfl⟩;rw[hidx])
    refine HR.out.mono ?_
    rintro e W3 (⟨rfl,hJ3⟩|⟨rfl,hJx3⟩)
    ·gi_wp2
     go_roundw
     case rel=>exact⟨pre++[r],[],Hlr.out,by simp,hJ3⟩
     case measure=>unfold eF7;rw[q0,(hJc _ _ _ hJ3).1];exact hl0
    ·gi_wp2
     refine bodyPost_ret (results_none rfl _ _ _) rfl ?_
     exact⟨⟨_,rfl⟩,.inr hJx3⟩
   ·have hidx:Lib.indexByte S.data.toList (10:Int).toNat.toUInt8=k:=by rw[HS.out];exact h1
    obtain⟨m,hm⟩:∃ m,m=k+1:=⟨_,rfl⟩
    have hw:IntKind.i64.wrap ((k:Int)+1)=(m:Int):=by rw[IntWalk.i64_in _ AO];omega
    have hm0:(0:Int)≤(m:Int):=by omega
    have hm1:(m:Int)≤(S.size:Int):=by omega
    have hm2:m≤S.size:=by omega
    have hk6:(0:Int)≤(k:Int):=by omega
    rw[← hm] at h3
    have hmp:0<m:=by omega
    clear hm
    have e1:(⟨(r.take m).toArray⟩:ByteArray)=S.extract 0 m:=by
     apply ByteArray.ext
     apply Array.toList_inj.1
     rw[Lib.extract_data,HS.out]
     simp
    have e2:(⟨(r.drop m).toArray⟩:ByteArray)=S.extract m S.size:=by
     apply ByteArray.ext
     apply Array.toList_inj.1
     rw[Lib.extract_data,HS.out,hz]
     exact (List.take_of_length_le ZH2).symm
    obtain⟨fn,tmps,assign,body,hy0,hR⟩:=hY pre r (r.take m) (r.drop m) wr.drew (hJd _ _ _ hJ) hrl h3
    rw[e1,e2] at hy0
    rw[e2] at hR
    have hy:(Instr.yield k0 #[.string (S.extract 0 m)]).run Tryz.prog (wr.setCell ⟨B,0,none⟩ (.string (S.extract m S.size))).drew=.ok (.round k0 fn tmps assign body) (wr.setCell ⟨B,0,none⟩ (.string (S.extract m S.size))).drew:=hy0
    have HR:=zh hR
    have He2:=zh e2
    have Hlr:=zh (show linesOf t=(pre++[r.take m])++linesOf (r.drop m) by rw[hlr,h3];simp)
    clear hz h1 hlr hR e1 e2 hy0
    have hmix:Tryz.prog.follows .mixedOrders=true:=by kernel_rfl
    gi_wp2_with (refine⟨trivial,?_⟩;gi_at_call 99;refine (callsIn_wide.2 (Tryz.strings_IndexByte S 10 _)).mono ?_;rintro e w1 ⟨rfl,rfl⟩;rw[hidx])
    gi_region_with_o (fail)
    all_goals
     gi_wp2
     refine HR.out.mono ?_
     rintro e W3 (⟨rfl,hJ3⟩|⟨rfl,hJx3⟩)
     ·gi_wp2
      go_roundw
      case rel=>exact⟨pre++[r.take m],r.drop m,Hlr.out,by rw[List.length_drop];omega,hJ3⟩
      case measure=>unfold eF7;rw[q0,(hJc _ _ _ hJ3).1];simp only[eB7,List.length_drop,Hz.out];omega
     ·gi_wp2
      refine bodyPost_ret (results_none rfl _ _ _) rfl ?_
      exact⟨⟨_,rfl⟩,.inr hJx3⟩
attribute [local go_sem] Oper.semAt_some
theorem eF9 {α:Type} {size:Nat} {R:(Nat→Prop)→World→List Value→α→Prop} {w w':World} {base:Nat} {e:TypeId} {v:Value} {l:List α} (hR:bI R) (h:Own size R (aB base) w base e v l) (hb:aC (aB base) w w'):Own size R (aB base) w' base e v l:=by
 obtain⟨xs,h1,h2⟩:=h
 refine⟨xs,⟨h1.1,?_⟩,fun i hi=>hR.same _ _ _ _ _ ⟨hb.size,fun k hS hk=>hb.block k hS.1 hk⟩ (h2 i hi)⟩
 rcases h1.2 with hn|⟨g,cap,cur,hv,hb',hh,rest⟩
 ·exact .inl hn
 ·exact .inr ⟨g,cap,cur,hv,hb',by rw[hb.block g hb' (Array.getElem?_eq_some_iff.1 hh).1];exact hh,rest⟩
theorem eG0 (w:World) (o:Obj) {r:Nat} (h:r<w.heap.size):(w.alloc o).heap[r]?=w.heap[r]?:=by
 show (w.heap.push o)[r]?=_
 rw[Array.getElem?_push_lt h,Array.getElem?_eq_getElem h]
theorem eG1 (w:World) (o:Obj):(w.alloc o).heap[w.heap.size]?=some o:=by
 show (w.heap.push o)[w.heap.size]?=some o
 simp
theorem lines_le:∀ (l:List UInt8),∀ y ∈ linesOf l,y.length≤l.length
 | [],y,h=>by simp[linesOf] at h
 | x :: l,y,h=>by
  have ih:=lines_le l
  unfold linesOf at h
  split at h
  ·rcases List.mem_cons.1 h with e|e
   ·subst e;simp
   ·have:=ih y e;simp;omega
  ·split at h
   ·simp at h;subst h;simp
   ·rename_i w ws hw
    rcases List.mem_cons.1 h with e|e
    ·have:=ih w (by rw[hw];simp)
     subst e
     simp
     exact this
    ·have:=ih y (by rw[hw];simp[e])
     simp
     omega
def OffL (a B:Nat) (k:Nat):Prop:=k≠a∧k≠a+1∧k≠B
def OffW (a B:Nat) (W W':World):Prop:=aC (OffL a B) W W'∧Below B W W'
def InL (a B:Nat) (k:Nat):Prop:=k=a∨k=a+1∨k=B
def linePost (a B:Nat) (I:List (List UInt8)→World→Prop) (Ix:Code→World→Prop) (pre:List (List UInt8)) (W:World):Exit→Act→World→Prop
 | .normal,_,W'=>aC (InL a B) W W'∧I pre W'
 | .ret,_,W'=>aC (InL a B) W W'∧Ix .ret W'
 | .exit id,_,W'=>aC (InL a B) W W'∧Ix (.exit id) W'
 | .goto t,_,W'=>aC (InL a B) W W'∧Ix (.goto t) W'
 | .panic _,_,_=>False
 | .outgrown,_,_=>False
theorem eG2 {a B k:Nat} (hk:k=a∨k=a+1) (hB:B<a) (W:World) (hW:a<W.heap.size) (o:Obj):OffW a B W (W.putObj k o) :=
 ⟨⟨by simp,fun j hj _=>World.putObj_heap_other (fun e=>by rcases hk with h|h <;> (obtain⟨h1,h2,_⟩:=hj;omega))⟩,
  (Below.refl _ _).grown (grownBy_putObj' W k o) AO (fun j e=>by cases e;omega)⟩
theorem eG3 {n:Nat} (hn:3≤n) {g:Operand} {ps:Array Tmp} {assign body:Code} {Q:Exit→Act→World→Prop} {a:Act} {w:World} {B:Nat} {t:List UInt8} {ty:TypeId}
  (hg:a.eval g=.func (.func 98) #[] #[.pointer (some ⟨B,0,none⟩)]) (eg:∀ args w,(callFunc 98 args).run Tryz.prog w=.ok (.enter 98 args) w)
  (hps:ps.size=1) (ht:t.length≤2000000) (hB:w.heap[B]?=some (.cells #[.string ⟨t.toArray⟩] ty (0,0)))
  (I:List (List UInt8)→World→Prop) (Ix:Code→World→Prop)
  (hI:∀ pre W W',I pre W→OffW w.heap.size B W W'→I pre W') (hIx:∀ c W W',Ix c W→OffW w.heap.size B W W'→Ix c W') (h0:I [] w) (a1:List UInt8→Act)
  (hassign:∀ (l:Nat) (x:List UInt8) (W:World) (K:Act→World→Prop),K (a1 x) W →
   assign.wpIn (Fence.wide.inRound l) (n - 1 - 1) Tryz.prog (Exit.then K (fun _ _ _=>False)) { tmps:=(ps.zip #[.string ⟨x.toArray⟩]).foldl (fun t (p,v)=>t.setIfInBounds p v) a.tmps,defers:=[] } W)
  (hbody:∀ (l:Nat) (pre:List (List UInt8)) (x:List UInt8) (r:List (List UInt8)) (W:World),linesOf t=pre++x :: r→x.length≤2000000→w.heap.size+1<W.heap.size→I pre W→body.wpIn (Fence.wide.inRound l) (n - 1 - 1) Tryz.prog (linePost w.heap.size B I Ix (pre++[x]) W) (a1 x) W)
  (hdone:∀ W,I (linesOf t) W→W.heap[w.heap.size]?=some (.deferred (some []))→Q .normal { a with defers:={ target:=.collected w.heap.size,args:=#[] } :: a.defers } W)
  (hstop:∀ (c:Code) (W:World),Ix c W→W.heap[w.heap.size]?=some (.deferred (some []))→c.wpIn Fence.wide n Tryz.prog Q { a with defers:={ target:=.collected w.heap.size,args:=#[] } :: a.defers } W) :
  (Code.rangeFunc g ps assign body).wpIn Fence.wide n Tryz.prog Q a w:=by
 have hBl:B<w.heap.size:=(Array.getElem?_eq_some_iff.1 hB).1
 refine wpIn_rangeFunc fun fn hfn=>?_
 obtain⟨rec,hrec⟩:∃ rec:LoopState→Option Code→Loop,rec=fun st pe=>{ state:=st,pending:=pe,fn,tmps:=a.tmps,params:=ps,assign,body,defers:=w.heap.size }:=⟨_,rfl⟩
 obtain⟨W1,hW1⟩:∃ W1,(w.alloc (.deferred (some []))).alloc (.loop (rec .ready none))=W1:=⟨_,rfl⟩
 have hs1:OffW w.heap.size B w W1:=by rw[← hW1];exact⟨((aC.refl _ _).alloc _).alloc _,((Below.refl _ _).alloc AO _).alloc ZC8 _⟩
 have hL1:W1.heap[w.heap.size+1]?=some (.loop (rec .ready none)):=by
  have h:=eG1 (w.alloc (.deferred (some []))) (.loop (rec .ready none))
  rw[← hW1]
  simpa using h
 have hD1:W1.heap[w.heap.size]?=some (.deferred (some [])):=by rw[← hW1];exact (eG0 _ _ ZH2).trans (eG1 w _)
 have hB1:W1.heap[B]?=some (.cells #[.string ⟨t.toArray⟩] ty (0,0)):=by rw[← hW1];exact ((eG0 _ _ ZC8).trans (eG0 _ _ hBl)).trans hB
 have hsz1:w.heap.size+1<W1.heap.size:=by rw[← hW1];simp
 refine⟨w.heap.size+1,[{ target:=.collected w.heap.size,args:=#[] }],W1,{ target:=.fn (.func 98) #[.pointer (some ⟨B,0,none⟩)],args:=#[.func (.yield (w.heap.size+1)) #[] #[]] },W1,98,
  #[.func (.yield (w.heap.size+1)) #[] #[]]++#[.pointer (some ⟨B,0,none⟩)],W1,?_,?_,fun _ _=>trivial,?_,fun _=>by omega,?_⟩
 ·rw[← hW1,hrec];exact run_enterLoop_outer _ _ _ _ _
 ·simp only[resolve,hg]
  simp[go_sem]
 ·simp[invoke,go_sem,eg]
 refine (eF8 (n - 1) AO (w.heap.size+1) B
  (fun pre r W=>(∃ q,linesOf t=pre++q∧q=linesOf r)∧I pre W∧W.heap[w.heap.size+1]?=some (.loop (rec .ready none))∧W.heap[w.heap.size]?=some (.deferred (some []))∧W.heap[B]?=some (.cells #[.string ⟨r.toArray⟩] ty (0,0)))
  (fun W=>∃ c,Ix c W∧W.heap[w.heap.size+1]?=some (.loop (rec .done (some c)))∧W.heap[w.heap.size]?=some (.deferred (some [])))
  ?cells ?drew ?yld t ht W1 ⟨⟨_,rfl,rfl⟩,hI _ _ _ h0 hs1,hL1,hD1,hB1⟩).mono ?endd
 case cells =>
  rintro pre r W ⟨_,_,_,_,hb⟩
  exact⟨aA (cs:=[.string ⟨r.toArray⟩]) hb 0,aD (cs:=[.string ⟨r.toArray⟩]) hb 0⟩
 case drew =>
  rintro pre r W ⟨h1,h2,h3,h4,h5⟩
  exact⟨h1,hI _ _ _ h2 ⟨(aC.refl _ _).drew,(Below.refl _ _).drew⟩,h3,h4,h5⟩
 case yld =>
  rintro pre r0 x r W ⟨⟨q,h1,rfl⟩,h2,h3,h4,h5⟩ hr0 hlx
  have hWl:w.heap.size+1<W.heap.size:=(Array.getElem?_eq_some_iff.1 h3).1
  obtain⟨V,hV⟩:∃ V,V=W.setCell ⟨B,0,none⟩ (.string ⟨r.toArray⟩):=⟨_,rfl⟩
  have hVs:aC (fun k=>k≠B) W V:=by rw[hV];exact (aC.refl _ _).setCell (fun h=>h rfl) _
  have k2:I pre V:=hI _ _ _ h2 ⟨⟨hVs.size,fun k hk hl=>hVs.block k hk.2.2 hl⟩,by rw[hV];exact (Below.refl _ _).setCell (p:=⟨B,0,none⟩) zn _⟩
  have k3:V.heap[w.heap.size+1]?=some (.loop (rec .ready none)):=(hVs.block _ AO hWl).trans h3
  have k4:V.heap[w.heap.size]?=some (.deferred (some [])):=(hVs.block _ AO AO).trans h4
  have k5:V.heap[B]?=some (.cells #[.string ⟨r.toArray⟩] ty (0,0)):=by rw[hV,heap_setCell_same _ _ _ _ _ _ h5];rfl
  rw[← hV]
  have hxl:x.length≤2000000:=by
   have hsub:∀ l:List UInt8,∀ y ∈ linesOf l,y.length≤l.length:=lines_le
   have:=hsub r0 x (by rw[hlx];simp)
   omega
  have hy:=run_yield (P:=Tryz.prog) (args:=#[.string ⟨x.toArray⟩]) k3 (by rw[hrec];exact hps.symm)
  rw[hrec] at hy
  refine⟨fn,_,assign,body,hy,roundIn_of_wpIn hfn (hassign _ x V _ ?_)⟩
  have k3l:w.heap.size+1<V.heap.size:=(Array.getElem?_eq_some_iff.1 k3).1
  refine⟨_,run_beginRound k3 (by rw[hrec]),?_⟩
  obtain⟨U,hU⟩:∃ U,U=V.putObj (w.heap.size+1) (.loop { rec .ready none with state:=.busy }):=⟨_,rfl⟩
  have u3:U.heap[w.heap.size+1]?=some (.loop { rec .ready none with state:=.busy }):=by rw[hU];exact World.putObj_heap_same k3l
  have u4:U.heap[w.heap.size]?=some (.deferred (some [])):=by rw[hU];exact (World.putObj_heap_other AO).trans k4
  have u5:U.heap[B]?=some (.cells #[.string ⟨r.toArray⟩] ty (0,0)):=by rw[hU];exact (World.putObj_heap_other AO).trans k5
  have u2:I pre U:=by rw[hU];exact hI _ _ _ k2 (eG2 (.inr rfl) hBl _ AO _)
  have uz:w.heap.size+1<U.heap.size:=(Array.getElem?_eq_some_iff.1 u3).1
  rw[← hU]
  refine wpIn_mono (hbody _ pre x (linesOf r) U (by rw[h1,hlx]) hxl uz u2) ?_
  have fin:∀ (jump:Option Code) (W3:World),aC (InL w.heap.size B) U W3 →
    (Instr.endRound (w.heap.size+1) jump).run Tryz.prog W3=.ok (.bool jump.isNone) (W3.putObj (w.heap.size+1) (.loop (rec (if jump.isNone then .ready else .done) jump))) ∧
    (W3.putObj (w.heap.size+1) (.loop (rec (if jump.isNone then .ready else .done) jump))).heap[w.heap.size+1]?=some (.loop (rec (if jump.isNone then .ready else .done) jump)) ∧
    (W3.putObj (w.heap.size+1) (.loop (rec (if jump.isNone then .ready else .done) jump))).heap[w.heap.size]?=some (.deferred (some [])) ∧
    (W3.putObj (w.heap.size+1) (.loop (rec (if jump.isNone then .ready else .done) jump))).heap[B]?=some (.cells #[.string ⟨r.toArray⟩] ty (0,0)):=fun jump W3 hk=>by
   have e3:=(hk.block _ (.inr (.inl rfl)) uz).trans u3
   have e4:=(hk.block _ (.inl rfl) AO).trans u4
   have e5:=(hk.block B (.inr (.inr rfl)) AO).trans u5
   have hr:=run_endRound (P:=Tryz.prog) jump e3
   rw[hrec] at hr ⊢
   exact⟨hr,World.putObj_heap_same (Array.getElem?_eq_some_iff.1 e3).1,(World.putObj_heap_other AO).trans e4,(World.putObj_heap_other AO).trans e5⟩
  rintro e a3 W3 hp
  cases e with
  | normal =>
   obtain⟨hk,hi⟩:=hp
   obtain⟨hr,f3,f4,f5⟩:=fin none W3 hk
   exact⟨_,_,hr,.inl ⟨rfl,⟨_,by rw[h1,hlx];simp,rfl⟩,hI _ _ _ hi (eG2 (.inr rfl) hBl _ (by have:=hk.size;omega) _),f3,f4,f5⟩⟩
  | ret =>
   obtain⟨hk,hi⟩:=hp
   obtain⟨hr,f3,f4,f5⟩:=fin (some .ret) W3 hk
   exact⟨_,_,hr,.inr ⟨rfl,.ret,hIx _ _ _ hi (eG2 (.inr rfl) hBl _ (by have:=hk.size;omega) _),f3,f4⟩⟩
  | exit id =>
   obtain⟨hk,hi⟩:=hp
   obtain⟨hr,f3,f4,f5⟩:=fin (some (.exit id)) W3 hk
   exact⟨_,_,hr,.inr ⟨rfl,.exit id,hIx _ _ _ hi (eG2 (.inr rfl) hBl _ (by have:=hk.size;omega) _),f3,f4⟩⟩
  | goto t =>
   obtain⟨hk,hi⟩:=hp
   obtain⟨hr,f3,f4,f5⟩:=fin (some (.goto t)) W3 hk
   exact⟨_,_,hr,.inr ⟨rfl,.goto t,hIx _ _ _ hi (eG2 (.inr rfl) hBl _ (by have:=hk.size;omega) _),f3,f4⟩⟩
  | panic ch=>exact hp.elim
  | outgrown=>exact hp.elim
 case endd =>
  rintro e W2 ⟨⟨v,rfl⟩,(⟨_,hi,hl,hk,_⟩|⟨c,hi,hl,hk⟩)⟩
  ·exact⟨none,_,by have:=run_endLoop (P:=Tryz.prog) hl (by rw[hrec];simp);rw[hrec] at this;exact this,hdone _ (hI _ _ _ hi (eG2 (.inr rfl) hBl _ (by have:=(Array.getElem?_eq_some_iff.1 hl).1;omega) _)) ((World.putObj_heap_other AO).trans hk)⟩
  ·exact⟨some c,_,by have:=run_endLoop (P:=Tryz.prog) hl (by rw[hrec];simp);rw[hrec] at this;exact this,hstop c _ (hIx _ _ _ hi (eG2 (.inr rfl) hBl _ (by have:=(Array.getElem?_eq_some_iff.1 hl).1;omega) _)) ((World.putObj_heap_other AO).trans hk)⟩
theorem eG4 (n:Nat) (S:ByteArray) (w:World) :
  CallsIn Fence.wide n Tryz.prog 58 #[.string S] w fun e w'=>e=.returned (.func (.func 98) #[] #[.pointer (some ⟨w.heap.size,0,none⟩)])∧w'=w.alloc (.cells #[.string S] 9):=by
 refine callsIn_of_wp Tryz.func58 rfl trivial ?_ rfl
 simp only[Tryz.ntmps58,List.size_toArray,List.length_cons,List.length_nil,Nat.reduceAdd,Nat.reduceSub,Array.replicate_succ,Array.replicate_zero,List.push_toArray,List.append_toArray,List.nil_append,List.cons_append]
 gi_wp2
 go_ret
 exact⟨rfl,rfl⟩
attribute [local go_sem] Oper.semAt_some
def LeRc (S:Nat→Prop) (w:World) (cs:List Value) (a:Le):Prop :=
 ∃ A c,cs=[.int .i64 a.kind,.int .i64 a.session,.int .i64 a.keep,.slice A a.data.length c]∧a.data.length≤c∧Bs S w A a.data∧a.data.length≤big
theorem leRc_stays:bI LeRc :=
 ⟨fun _ _ _ _ _ hb ⟨A,c,h0,hc,h1,h2⟩=>⟨A,c,h0,hc,h1.bsame hb,h2⟩,fun _ _ _ _ _ hb ⟨A,c,h0,hc,h1,h2⟩=>⟨A,c,h0,hc,h1.bless hb,h2⟩⟩
def RetReadC (w:World) (r:List Le × Int × Int) (e:Ending) (w':World):Prop:=∃ A c,e=.returned (.tuple #[.slice A r.1.length c,.int .i64 r.2.1,.int .i64 r.2.2])∧r.1.length≤c∧SL 4 LeRc (aB w.heap.size) w' A r.1∧Below w.heap.size w w'
theorem eG5 {F:Fence} {n:Nat} {P:Program} {α:Type} {R:(Nat→Prop)→World→List Value→α→Prop} (hR:bI R) {S:Nat→Prop} (w:World) {ops:Array Oper} {rest:List Oper} {o:Oper} {a:Act} {Q:Exit→Act→World→Prop} (hgd:o.guard=none) (s x:Operand) (t:TypeId)
  (ho:o.op=.call { callee:=.builtin .append,args:=#[s,x],argTypes:=#[t,t] })
  (base:Nat) (e:TypeId) (i:TypeInfo) (z:Value) (size bytes:Nat) (ht:P.underlying t=some (.slice e)) (hi:P.info? e=some i) (hz:i.zero=some z)
  (hsize:i.size=size) (hby:i.bytes=bytes) (hzs:z.cells.size=size) (hsz:0<size)
  (v:Value) (l:List α) (hs:a.eval s=v) (hown:Own size R S w base e v l)
  (A:Option Addr) (c:Nat) (cs:List Value) (hx:a.eval x=.slice A 1 c) (hl:cs.length=size) (hsrc:∃ ad,A=some ad∧∀ j u,cs[j]?=some u→w.cell? (ad.add j)=some u) (h1:∀ u ∈ cs,u.oneCell'=true)
  (h63:l.length+1≤maxLen) (hbytes:(l.length+1)*bytes≤140737488355328) (hbase:base≤w.heap.size)
  (d:α) (hd:R (fun b=>S b∧v.ownBlock≠some b) w cs d)
  (h:∀ v' w',Own size R S w' base e v' (l++[d])→Below base w w'→wpListIn F n P ops Q rest (a.put o.dst v') w'):wpListIn F n P ops Q (o :: rest) a w:=by
 obtain⟨xs,hx1,hx2⟩:=hown
 refine wpListIn_plain hgd fun K hK'=>?_
 obtain⟨v',w',hrun,g1,g2,g3⟩:=run_app (P:=P) w base t o.type e i z size bytes ht hi hz hsize hby hzs hsz v l.length xs hx1 A 1 c cs AO (fun _=>hsrc) h1 h63 hbytes hbase
 unfold Oper.wpIn
 refine⟨?_,?_⟩
 ·simp[Oper.about,ho,resolve,Target.leads,Sem.run_pure]
 ·rw[Oper.semAt_plain F _ _ (by rw[ho];intro c hc';cases hc')]
  simp[execOp,ho,resolve,invoke,builtin,hs,hx,hrun,Result.andThen]
  exact hK' _ _ (h v' w' (Own.snoc hR hx2 hx1 g1 g2 g3 hd hl) (aA6 hx1 g2 hbase))
structure RdI (w:World) (a B:Nat) (pre:List (List UInt8)) (W:World):Prop where
 size:a≤W.heap.size
 below:Below w.heap.size w W
 row:∃ (acc:List Le) (v:Value),(∀ rest,readFrom (pre++rest) []=readFrom rest acc)∧acc.length≤100000∧W.heap[w.heap.size+3]?=some (.cells #[v] 23 (0,0))∧Own 4 LeRc (aB (a+2)) W (a+2) 46 v acc
 r0:W.heap[w.heap.size]?=some (.cells #[.slice none 0 0] 23 (0,0))
 r1:W.heap[w.heap.size+1]?=some (.cells #[.int .i64 0] 3 (0,0))
 r2:W.heap[w.heap.size+2]?=some (.cells #[.int .i64 0] 49 (0,0))
theorem RdI.off {w:World} {pre:List (List UInt8)} {W W':World} (h:RdI w (w.heap.size+5) (w.heap.size+4) pre W) (ho:OffW (w.heap.size+5) (w.heap.size+4) W W'):RdI w (w.heap.size+5) (w.heap.size+4) pre W':=by
 obtain⟨hs,hbe⟩:=ho
 have hz:=h.size
 have hb:=hs.size
 obtain⟨acc,v,h1,h2,h3,h4⟩:=h.row
 exact⟨Nat.le_trans hz hb,h.below.trans (hbe.mono AO),⟨acc,v,h1,h2,(hs.block _ (by unfold OffL;omega) AO).trans h3,eF9 leRc_stays h4 ⟨hb,fun k hk hl=>hs.block k (by unfold OffL;have h':w.heap.size+5+2≤k:=hk;omega) hl⟩⟩,
  (hs.block _ (by unfold OffL;omega) AO).trans h.r0,(hs.block _ (by unfold OffL;omega) AO).trans h.r1,(hs.block _ (by unfold OffL;omega) AO).trans h.r2⟩
theorem eG6 {W:World} {g k:Nat} {x y z:Value} (h:k≠g∧k≠g+1∧k≠g+2) (hk:k<W.heap.size):(((W.setCell ⟨g,0,none⟩ x).setCell ⟨g+1,0,none⟩ y).setCell ⟨g+2,0,none⟩ z).heap[k]?=W.heap[k]? :=
 ((((aC.refl (fun j=>j=k) W).setCell (p:=⟨g,0,none⟩) (fun e=>h.1 e.symm) x).setCell (p:=⟨g+1,0,none⟩) (fun e=>h.2.1 e.symm) y).setCell (p:=⟨g+2,0,none⟩) (fun e=>h.2.2 e.symm) z).block k rfl hk
theorem eG7 {W:World} {g:Nat} {x y z x' y' z':Value} {tx ty tz:TypeId} (h0:W.heap[g]?=some (.cells #[x] tx (0,0))) (h1:W.heap[g+1]?=some (.cells #[y] ty (0,0))) (h2:W.heap[g+2]?=some (.cells #[z] tz (0,0))) :
  (((W.setCell ⟨g,0,none⟩ x').setCell ⟨g+1,0,none⟩ y').setCell ⟨g+2,0,none⟩ z').heap[g]?=some (.cells #[x'] tx (0,0)) ∧
  (((W.setCell ⟨g,0,none⟩ x').setCell ⟨g+1,0,none⟩ y').setCell ⟨g+2,0,none⟩ z').heap[g+1]?=some (.cells #[y'] ty (0,0)) ∧
  (((W.setCell ⟨g,0,none⟩ x').setCell ⟨g+1,0,none⟩ y').setCell ⟨g+2,0,none⟩ z').heap[g+2]?=some (.cells #[z'] tz (0,0)):=by
 have off:∀ (V:World) (j k:Nat) (u:Value) (o:Option Obj),V.heap[j]?=o→j≠k→(V.setCell ⟨k,0,none⟩ u).heap[j]?=o:=fun V j k u o h hne=>(Below.heap_setCell V ⟨k,0,none⟩ u j (fun e=>hne e)).trans h
 refine⟨off _ _ _ _ _ (off _ _ _ _ _ ?_ AO) AO,off _ _ _ _ _ ?_ AO,?_⟩
 ·rw[heap_setCell_same _ _ _ _ _ _ h0];rfl
 ·rw[heap_setCell_same _ _ _ _ _ _ (off _ _ _ _ _ h1 AO)];rfl
 ·rw[heap_setCell_same _ _ _ _ _ _ (off _ _ _ _ _ (off _ _ _ _ _ h2 AO) AO)];rfl
theorem eG8 {W:World} {g k:Nat} {v:Value} {t:TypeId} {o:Obj} (h:W.heap[g]?=some (.cells #[v] t (0,0))) (hne:g≠k):(W.putObj k o).cell? ⟨g,0,none⟩=some v:=by
 have:=aA (cs:=[v]) ((World.putObj_heap_other AO).trans h:(W.putObj k o).heap[g]?=_) 0
 simpa using this
def RdX (w:World) (r:List Le × Int × Int) (c:Code) (W:World):Prop :=
 c=.ret∧w.heap.size+7≤W.heap.size∧Below w.heap.size w W∧r.1=[]∧W.heap[w.heap.size]?=some (.cells #[.slice none 0 0] 23 (0,0))∧W.heap[w.heap.size+1]?=some (.cells #[.int .i64 r.2.1] 3 (0,0))∧W.heap[w.heap.size+2]?=some (.cells #[.int .i64 r.2.2] 49 (0,0))
theorem RdX.off {w:World} {r:List Le × Int × Int} {c:Code} {W W':World} (h:RdX w r c W) (ho:OffW (w.heap.size+5) (w.heap.size+4) W W'):RdX w r c W':=by
 obtain⟨hs,hbe⟩:=ho
 obtain⟨hc,hz,h1,h2,h3,h4,h5⟩:=h
 exact⟨hc,Nat.le_trans hz hs.size,h1.trans (hbe.mono AO),h2,(hs.block _ (by unfold OffL;omega) AO).trans h3,(hs.block _ (by unfold OffL;omega) AO).trans h4,(hs.block _ (by unfold OffL;omega) AO).trans h5⟩
theorem eG9 {w W X:World} {r:List Le × Int × Int} {n k:Int} (hbe:Below w.heap.size w W) (hz:w.heap.size+7≤W.heap.size) (hX:Below W.heap.size W X) (hr:r=([],n,k))
  (h0:W.heap[w.heap.size]?=some (.cells #[.slice none 0 0] 23 (0,0))) (h1:W.heap[w.heap.size+1]?=some (.cells #[.int .i64 0] 3 (0,0))) (h2:W.heap[w.heap.size+2]?=some (.cells #[.int .i64 0] 49 (0,0))) :
  aC (InL (w.heap.size+5) (w.heap.size+4)) W (((X.setCell ⟨w.heap.size,0,none⟩ (.slice none 0 0)).setCell ⟨w.heap.size+1,0,none⟩ (.int .i64 n)).setCell ⟨w.heap.size+2,0,none⟩ (.int .i64 k)).drew ∧
  RdX w r .ret (((X.setCell ⟨w.heap.size,0,none⟩ (.slice none 0 0)).setCell ⟨w.heap.size+1,0,none⟩ (.int .i64 n)).setCell ⟨w.heap.size+2,0,none⟩ (.int .i64 k)).drew:=by
 subst hr
 have hzX:=hX.size
 obtain⟨y0,y1,y2⟩:=eG7 (x':=.slice none 0 0) (y':=.int .i64 n) (z':=.int .i64 k) ((hX.block _ AO).trans h0) ((hX.block _ AO).trans h1) ((hX.block _ AO).trans h2)
 refine⟨?_,rfl,by simp;omega,((((hbe.trans (hX.mono AO)).setCell (p:=⟨w.heap.size,0,none⟩) zn _).setCell (p:=⟨w.heap.size+1,0,none⟩) ZH2 _).setCell (p:=⟨w.heap.size+2,0,none⟩) ZH2 _).drew,rfl,y0,y1,y2⟩
 refine aC.drew ⟨by simp;omega,fun j hj hjl=>(eG6 ?_ AO).trans (hX.block j hjl)⟩
 unfold InL at hj
 omega
theorem read_ok (w:World) (hT:eB6 w) (S:ByteArray):Calls Tryz.prog 28 #[.string S] w (RetReadC w (eB4 S.data.toList)):=by
 obtain⟨i0,hi0,hz0,hz1,hz2⟩:=info_parts info_ln
 have HT:=zh hT
 have hS:=Lib.size_eq S
 obtain⟨s,hse⟩:∃ s,s=S.data.toList:=⟨_,rfl⟩
 rw[← hse] at hS ⊢
 have Hse:=zh hse
 have HS:=zh hS
 clear hse hS hT
 refine (callsIn_wide (n:=4)).1 ?_
 refine callsIn_of_wp_marks Tryz.func28 rfl trivial ?_ rfl
 simp only[Tryz.ntmps28,List.size_toArray,List.length_cons,List.length_nil,Nat.reduceAdd,Nat.reduceSub,Array.replicate_succ,Array.replicate_zero,List.push_toArray,List.append_toArray,List.nil_append,List.cons_append]
 by_cases hs:2000000<S.size
 ·have Hr:=zh (show eB4 s=([],0,1) by unfold eB4;rw[if_pos (by rw[← HS.out];exact hs)])
  have b1:decide ((2000000:Int)<(S.size:Int))=true:=by simp;omega
  gi_wp2
  refine⟨.tuple #[.slice none 0 0,.int .i64 0,.int .i64 1],by simp[results,Tryz.results28,go_sem],?_⟩
  rw[Hr.out]
  exact⟨none,0,rfl,zn,SL.nil,(((Below.refl _ _).alloc zn _).alloc (by simp <;> omega) _).alloc (by simp <;> omega) _⟩
 ·have b1:decide ((2000000:Int)<(S.size:Int))=false:=by simp;omega
  have Hr:=zh (show eB4 s=readFrom (linesOf s) [] by unfold eB4;rw[if_neg (by rw[← HS.out];exact hs)])
  gi_wp2_with (refine⟨trivial,?_⟩;gi_at_call 58;refine (eG4 _ _ _).mono ?_;rintro e w' ⟨rfl,rfl⟩)
  simp only[Nat.add_assoc,Nat.reduceAdd]
  obtain⟨W0,hW0⟩:∃ W0,((((w.alloc (.cells #[.slice none 0 0] 23)).alloc (.cells #[.int .i64 0] 3)).alloc (.cells #[.int .i64 0] 49)).alloc (.cells #[.slice none 0 0] 23)).alloc (.cells #[.string S] 9)=W0:=⟨_,rfl⟩
  have hsz0:W0.heap.size=w.heap.size+5:=by rw[← hW0];simp
  have hbe0:Below w.heap.size w W0:=by rw[← hW0];exact (((((Below.refl _ _).alloc zn _).alloc (by simp <;> omega) _).alloc (by simp <;> omega) _).alloc (by simp <;> omega) _).alloc (by simp <;> omega) _
  have k0:W0.heap[w.heap.size]?=some (.cells #[.slice none 0 0] 23 (0,0)):=by rw[← hW0];exact (eG0 _ _ (by simp <;> omega)).trans ((eG0 _ _ (by simp <;> omega)).trans ((eG0 _ _ (by simp <;> omega)).trans ((eG0 _ _ (by simp <;> omega)).trans (aK w _ _))))
  have k1:W0.heap[w.heap.size+1]?=some (.cells #[.int .i64 0] 3 (0,0)):=by
   rw[← hW0]
   refine (eG0 _ _ (by simp <;> omega)).trans ((eG0 _ _ (by simp <;> omega)).trans ((eG0 _ _ (by simp <;> omega)).trans ?_))
   have:=aK (w.alloc (.cells #[.slice none 0 0] 23)) #[.int .i64 0] 3
   simpa using this
  have k2:W0.heap[w.heap.size+2]?=some (.cells #[.int .i64 0] 49 (0,0)):=by
   rw[← hW0]
   refine (eG0 _ _ (by simp <;> omega)).trans ((eG0 _ _ (by simp <;> omega)).trans ?_)
   have:=aK ((w.alloc (.cells #[.slice none 0 0] 23)).alloc (.cells #[.int .i64 0] 3)) #[.int .i64 0] 49
   simpa using this
  have k3:W0.heap[w.heap.size+3]?=some (.cells #[.slice none 0 0] 23 (0,0)):=by
   rw[← hW0]
   refine (eG0 _ _ (by simp <;> omega)).trans ?_
   have:=aK (((w.alloc (.cells #[.slice none 0 0] 23)).alloc (.cells #[.int .i64 0] 3)).alloc (.cells #[.int .i64 0] 49)) #[.slice none 0 0] 23
   simpa using this
  have k4:W0.heap[w.heap.size+4]?=some (.cells #[.string ⟨s.toArray⟩] 9 (0,0)):=by
   rw[← hW0,show (⟨s.toArray⟩:ByteArray)=S from by rw[Hse.out]]
   have:=aK ((((w.alloc (.cells #[.slice none 0 0] 23)).alloc (.cells #[.int .i64 0] 3)).alloc (.cells #[.int .i64 0] 49)).alloc (.cells #[.slice none 0 0] 23)) #[.string S] 9
   simpa using this
  have hsl:s.length≤2000000:=by rw[← HS.out];omega
  rw[hW0]
  clear hW0 b1
  refine eG3 (n:=4) (B:=w.heap.size+4) (t:=s) (ty:=9) AO rfl (enters_of Tryz.func98 ZG0 rfl) rfl hsl k4
   (RdI w (w.heap.size+5) (w.heap.size+4)) (RdX w (eB4 s)) (fun pre W W' h ho=>h.off (by rw[hsz0] at ho;exact ho)) (fun c W W' h ho=>h.off (by rw[hsz0] at ho;exact ho))
   ⟨AO,hbe0,⟨[],_,fun rest=>rfl,Nat.zero_le _,k3,Own.nil _ _ _⟩,k0,k1,k2⟩
   (fun x=>{ tmps:=#[.string S,undef,.pointer (some ⟨w.heap.size,0,none⟩),.pointer (some ⟨w.heap.size+1,0,none⟩),.pointer (some ⟨w.heap.size+2,0,none⟩),.pointer (some ⟨w.heap.size+3,0,none⟩),.string ⟨x.toArray⟩,undef,.string S,.int .i64 S.size,.bool false,.string S,.func (.func 98) #[] #[.pointer (some ⟨w.heap.size+4,0,none⟩)],.string ⟨x.toArray⟩,undef,undef,undef,undef,undef,undef,undef,undef,undef,undef,undef,undef,undef,undef,undef,undef,undef,undef,undef,undef,undef,undef,undef],defers:=[] })
   ?assign ?body ?done ?stop
  case assign =>
   rintro l x W K hK
   gi_wp2
   exact hK
  case body =>
   rintro l pre x r W hlt hxl hsz hI
   rw[hsz0] at hsz ⊢
   have hz:w.heap.size+7≤W.heap.size:=by omega
   obtain⟨_,hbel,⟨acc,v,hrf,hac,hb3,hown⟩,hr0,hr1,hr2⟩:=hI
   have hrs:=Hr.out
   rw[hlt,hrf] at hrs
   have Hrs:=zh hrs
   have Hrf:=zh hrf
   have Hown:=zh hown
   have Hbel:=zh hbel
   have hbz:=hbel.size
   obtain⟨VA,vc,rfl,hcap,_⟩:=hown.readc leRc_stays
   have q3:=aA (cs:=[_]) hb3 0
   have f3:=aD (cs:=[_]) hb3 0
   simp only[List.getElem?_cons_zero] at q3
   have f0:=aD (cs:=[_]) hr0 0
   have z0:=aA (cs:=[_]) hr0 0
   simp only[List.getElem?_cons_zero] at z0
   have f1:=aD (cs:=[_]) hr1 0
   have z1:=aA (cs:=[_]) hr1 0
   simp only[List.getElem?_cons_zero] at z1
   have f2:=aD (cs:=[_]) hr2 0
   have z2:=aA (cs:=[_]) hr2 0
   simp only[List.getElem?_cons_zero] at z2
   have Hb3:=zh hb3
   have hlt0:w.heap.size<W.heap.size:=by omega
   have hlt1:w.heap.size+1<W.heap.size:=by omega
   have hlt2:w.heap.size+2<W.heap.size:=by omega
   have Hr0:=zh hr0
   have Hr1:=zh hr1
   have Hrr2:=zh hr2
   clear hrs hrf hown hbel hb3 hlt hcap hr0 hr1 hr2
   by_cases hfull:acc.length=100000
   ·have b5:((acc.length:Int)==100000)=true:=by rw[beq_iff_eq];omega
    have Hr2:=zh (show eB4 s=([],(acc.length:Int),11) by rw[Hrs.out,readFrom,if_pos hfull,hfull];rfl)
    clear hfull
    gi_wp2
    gi_region
    all_goals
     gi_wp2
     exact eG9 Hbel.out hz (Below.refl _ _) Hr2.out Hr0.out Hr1.out Hrr2.out
   ·have b5:((acc.length:Int)==100000)=false:=by rw[beq_eq_false_iff_ne];omega
    obtain⟨a,ha⟩:∃ a,pS x=a:=⟨_,rfl⟩
    by_cases hf:dX5 a=0
    ·by_cases hl:lnS a=x
     ·have b6:(aB1 a.kind a.session a.keep a.data.length != 0)=false:=by simpa [dX5] using hf
      have Hf:=zh hf
      have Hsn:=zh (show ∀ rest,readFrom ((pre++[x])++rest) []=readFrom rest (acc++[a]) from fun rest=>by rw[List.append_assoc,Hrf.out,List.singleton_append,readFrom,if_neg hfull,okS,ha,if_pos ⟨hf,hl⟩])
      have Hdl:=zh (show a.data.length≤big from Nat.le_trans (eC6 hf) ZD9)
      have Hac:=zh (show acc.length+1≤100000 by omega)
      have hbl:(lnS a==x)=true:=by rw[hl];simp
      clear hfull hf hl
      gi_wp2_with (first|(refine⟨trivial,?_⟩;gi_at_call 59;(with_reducible refine (CallsIn.inRound l (callsIn_wide.2 (eC3 _ ?hT x hxl))).mono ?_);(case hT=>exact HT.out.below (Hbel.out.mono zn));rw[ha];rintro e w5 ⟨D,d,rfl,hbs,hv5,hcd⟩;have HD:=zh hbs;have Hcd:=zh hcd;have Hv5:=zh hv5;have hz5:=hv5.size;obtain⟨c0,c1,c2,c3,f0,f1,f2,f3⟩:=dZ1 (aK w5 #[.int .i64 a.kind,.int .i64 a.session,.int .i64 a.keep,.slice D a.data.length d] 46);have Hb5:=zh (hv5.alloc AO (.cells #[.int .i64 a.kind,.int .i64 a.session,.int .i64 a.keep,.slice D a.data.length d] 46));have q3a:=(Hb5.out.cell (p:=⟨w.heap.size+3,0,none⟩) ZC5).trans q3;clear hbs hv5 hcd)|(refine⟨trivial,?_⟩;gi_at_call 35;(with_reducible refine (CallsIn.inRound l (callsIn_wide.2 (bC4 _ a.kind a.session a.keep D a.data.length d))).mono ?_);rw[show aB1 a.kind a.session a.keep a.data.length=0 from Hf.out];rintro e w6 ⟨rfl,hv6⟩;have hz6:=hv6.size;have Hb6:=zh (Hb5.out.next hv6 Hb5.out.size);obtain⟨d0,d1,d2,d3,g0,g1,g2,g3⟩:=dZ1 ((hv6.block w5.heap.size ZH2).trans (aK w5 #[.int .i64 a.kind,.int .i64 a.session,.int .i64 a.keep,.slice D a.data.length d] 46));have hg6:w5.heap.size<w6.heap.size:=(by simp at hz6;omega);have q3b:=(Hb6.out.cell (p:=⟨w.heap.size+3,0,none⟩) ZC5).trans q3;have hX0:=(Hb6.out.block w.heap.size AO).trans Hr0.out;have hX1:=(Hb6.out.block (w.heap.size+1) AO).trans Hr1.out;have hX2:=(Hb6.out.block (w.heap.size+2) AO).trans Hrr2.out;have x0:=aA (cs:=[_]) hX0 0;have x1:=aA (cs:=[_]) hX1 0;have x2:=aA (cs:=[_]) hX2 0;simp only[List.getElem?_cons_zero] at x0 x1 x2;have y0:=aD (cs:=[_]) hX0 0;have y1:=aD (cs:=[_]) hX1 0;have y2:=aD (cs:=[_]) hX2 0;have hl0:=(Array.getElem?_eq_some_iff.1 hX0).1;have hl1:=(Array.getElem?_eq_some_iff.1 hX1).1;have hl2:=(Array.getElem?_eq_some_iff.1 hX2).1;clear hX0 hX1 hX2;have Hv6:=zh hv6;have Hbx6:=zh ((hv6.block w5.heap.size ZH2).trans (aK w5 #[.int .i64 a.kind,.int .i64 a.session,.int .i64 a.keep,.slice D a.data.length d] 46));clear hv6)|(refine⟨trivial,?_⟩;gi_at_call 56;(with_reducible refine (CallsIn.inRound l (callsIn_wide.2 (dZ4 _ ?hT2 a D d Hf.out ?hD))).mono ?_);(case hT2=>exact HT.out.ln.below (Hbel.out.trans (Hb6.out.mono hbz)));(case hD=>exact (((HD.out.bz).bbelow ((Below.refl _ _).alloc zn _)).bbelow Hv6.out));rintro e w7 ⟨rfl,hv7⟩;have hz7:=hv7.size;have Hb7:=zh (Hb6.out.next hv7 Hb6.out.size);obtain⟨e0,e1,e2,e3,i1,i2,i3,i4⟩:=dZ1 ((hv7.block w5.heap.size hg6).trans Hbx6.out);have hg7:w5.heap.size<w7.heap.size:=AO;have q3c:=(Hb7.out.cell (p:=⟨w.heap.size+3,0,none⟩) ZC5).trans q3;have Hv7:=zh hv7;clear hv7)|(gi_at_builtin;refine eG5 leRc_stays (S:=aB (w.heap.size+5+2)) _ rfl _ _ _ rfl (w.heap.size+5+2) 46 i0 _ 4 48 Tryz.underlying23 hi0 hz0 hz1 hz2 rfl ZD9 _ acc rfl ?hown _ _ [.int .i64 a.kind,.int .i64 a.session,.int .i64 a.keep,.slice D a.data.length d] rfl rfl (aE6 _ _ [.int .i64 a.kind,.int .i64 a.session,.int .i64 a.keep,.slice D a.data.length d] _ ZH2) ZE8 ?hm ?hby ?hba a ?hd ?_;(case hown=>exact (Hown.out.below leRc_stays Hb7.out).below leRc_stays ((Below.refl _ _).alloc zn _));(case hm=>(have h9:=Hac.out;simp only[maxLen];omega));(case hby=>(have h9:=Hac.out;omega));(case hba=>(have h9:=Hb7.out.size;simp;omega));(case hd=>exact⟨D,d,rfl,Hcd.out,(((((HD.out.bbelow ((Below.refl _ _).alloc zn _)).bbelow Hv6.out).bbelow Hv7.out).bbelow ((Below.refl _ _).alloc zn _)).bless (fun b _ h9=>⟨(show w.heap.size+5+2≤b by have h':W.heap.size≤b:=h9;omega),Hown.out.apart W.heap.size zn b h9⟩)),Hdl.out⟩);intro v8 w8 hown8 hbw8;obtain⟨V8,c8,rfl,hcap8,_⟩:=hown8.readc leRc_stays;clear hcap8;have hB8:=(hbw8.block (w.heap.size+3) AO).trans ((eG0 _ _ AO).trans ((Hb7.out.block _ AO).trans Hb3.out));have x8:=aA (cs:=[_]) hB8 0;have y8:=aD (cs:=[_]) hB8 0;simp only[List.getElem?_cons_zero] at x8;have hl8:=(Array.getElem?_eq_some_iff.1 hB8).1;have Hown8:=zh hown8;have Hbw8:=zh hbw8;have HB8:=zh hB8;clear hown8 hbw8 hB8)|(refine⟨trivial,?_⟩))
      have hS8:=heap_setCell_same _ _ 0 _ _ (.slice V8 (acc.length+1) c8) HB8.out
      have hz8:=Hbw8.out.size
      have hz7:=Hb7.out.size
      have hal:=World.size_alloc w7 (.cells #[.int .i64 a.kind,.int .i64 a.session,.int .i64 a.keep,.slice D a.data.length d] 46)
      have hown9:=Hown8.out
      rw[show (acc++[a]).length=acc.length+1 by simp] at hown9
      have hk:∀ k,k<w.heap.size+5+2→k≠w.heap.size+3→(w8.setCell ⟨w.heap.size+3,0,none⟩ (.slice V8 (acc.length+1) c8)).heap[k]?=W.heap[k]?:=fun k hk hne=>(Below.heap_setCell _ _ _ _ (fun e=>hne e)).trans ((Hbw8.out.block _ hk).trans ((eG0 _ _ AO).trans (Hb7.out.block _ AO)))
      have hbe:=(((Hbel.out.trans (Hb7.out.mono hbz)).alloc AO (.cells #[.int .i64 a.kind,.int .i64 a.session,.int .i64 a.keep,.slice D a.data.length d] 46)).trans (Hbw8.out.mono AO)).setCell (p:=⟨w.heap.size+3,0,none⟩) ZH2 (.slice V8 (acc.length+1) c8)
      refine⟨⟨by simp;omega,fun k hk' _=>hk k (by unfold InL at hk';omega) (by unfold InL at hk';omega)⟩,⟨by simp;omega,hbe,⟨acc++[a],_,Hsn.out,by have h9:=Hac.out;simpa using h9,hS8,eF9 leRc_stays hown9 ((aC.refl _ _).setCell (fun h=>by have h':w.heap.size+5+2≤w.heap.size+3:=h;omega) _)⟩,(hk _ AO AO).trans Hr0.out,(hk _ AO AO).trans Hr1.out,(hk _ AO AO).trans Hrr2.out⟩⟩
     ·have b6:(aB1 a.kind a.session a.keep a.data.length != 0)=false:=by simpa [dX5] using hf
      have Hf:=zh hf
      have Hr2:=zh (show eB4 s=([],(acc.length:Int),4) by rw[Hrs.out,readFrom,if_neg hfull,okS,ha,if_neg (fun h=>hl h.2)])
      have hbl:(lnS a==x)=false:=by simpa using hl
      clear hfull hf hl
      gi_wp2_with (first|(refine⟨trivial,?_⟩;gi_at_call 59;(with_reducible refine (CallsIn.inRound l (callsIn_wide.2 (eC3 _ ?hT x hxl))).mono ?_);(case hT=>exact HT.out.below (Hbel.out.mono zn));rw[ha];rintro e w5 ⟨D,d,rfl,hbs,hv5,hcd⟩;have HD:=zh hbs;have Hcd:=zh hcd;have Hv5:=zh hv5;have hz5:=hv5.size;obtain⟨c0,c1,c2,c3,f0,f1,f2,f3⟩:=dZ1 (aK w5 #[.int .i64 a.kind,.int .i64 a.session,.int .i64 a.keep,.slice D a.data.length d] 46);have Hb5:=zh (hv5.alloc AO (.cells #[.int .i64 a.kind,.int .i64 a.session,.int .i64 a.keep,.slice D a.data.length d] 46));have q3a:=(Hb5.out.cell (p:=⟨w.heap.size+3,0,none⟩) ZC5).trans q3;clear hbs hv5 hcd)|(refine⟨trivial,?_⟩;gi_at_call 35;(with_reducible refine (CallsIn.inRound l (callsIn_wide.2 (bC4 _ a.kind a.session a.keep D a.data.length d))).mono ?_);rw[show aB1 a.kind a.session a.keep a.data.length=0 from Hf.out];rintro e w6 ⟨rfl,hv6⟩;have hz6:=hv6.size;have Hb6:=zh (Hb5.out.next hv6 Hb5.out.size);obtain⟨d0,d1,d2,d3,g0,g1,g2,g3⟩:=dZ1 ((hv6.block w5.heap.size ZH2).trans (aK w5 #[.int .i64 a.kind,.int .i64 a.session,.int .i64 a.keep,.slice D a.data.length d] 46));have hg6:w5.heap.size<w6.heap.size:=(by simp at hz6;omega);have q3b:=(Hb6.out.cell (p:=⟨w.heap.size+3,0,none⟩) ZC5).trans q3;have hX0:=(Hb6.out.block w.heap.size AO).trans Hr0.out;have hX1:=(Hb6.out.block (w.heap.size+1) AO).trans Hr1.out;have hX2:=(Hb6.out.block (w.heap.size+2) AO).trans Hrr2.out;have x0:=aA (cs:=[_]) hX0 0;have x1:=aA (cs:=[_]) hX1 0;have x2:=aA (cs:=[_]) hX2 0;simp only[List.getElem?_cons_zero] at x0 x1 x2;have y0:=aD (cs:=[_]) hX0 0;have y1:=aD (cs:=[_]) hX1 0;have y2:=aD (cs:=[_]) hX2 0;have hl0:=(Array.getElem?_eq_some_iff.1 hX0).1;have hl1:=(Array.getElem?_eq_some_iff.1 hX1).1;have hl2:=(Array.getElem?_eq_some_iff.1 hX2).1;clear hX0 hX1 hX2;have Hv6:=zh hv6;have Hbx6:=zh ((hv6.block w5.heap.size ZH2).trans (aK w5 #[.int .i64 a.kind,.int .i64 a.session,.int .i64 a.keep,.slice D a.data.length d] 46));clear hv6)|(refine⟨trivial,?_⟩;gi_at_call 56;(with_reducible refine (CallsIn.inRound l (callsIn_wide.2 (dZ4 _ ?hT2 a D d Hf.out ?hD))).mono ?_);(case hT2=>exact HT.out.ln.below (Hbel.out.trans (Hb6.out.mono hbz)));(case hD=>exact (((HD.out.bz).bbelow ((Below.refl _ _).alloc zn _)).bbelow Hv6.out));rintro e w7 ⟨rfl,hv7⟩;have hz7:=hv7.size;have Hb7:=zh (Hb6.out.next hv7 Hb6.out.size);obtain⟨e0,e1,e2,e3,i1,i2,i3,i4⟩:=dZ1 ((hv7.block w5.heap.size hg6).trans Hbx6.out);have hg7:w5.heap.size<w7.heap.size:=AO;have q3c:=(Hb7.out.cell (p:=⟨w.heap.size+3,0,none⟩) ZC5).trans q3;have hX0:=(Hb7.out.block w.heap.size AO).trans Hr0.out;have hX1:=(Hb7.out.block (w.heap.size+1) AO).trans Hr1.out;have hX2:=(Hb7.out.block (w.heap.size+2) AO).trans Hrr2.out;have t0:=aA (cs:=[_]) hX0 0;have t1:=aA (cs:=[_]) hX1 0;have t2:=aA (cs:=[_]) hX2 0;simp only[List.getElem?_cons_zero] at t0 t1 t2;have u0:=aD (cs:=[_]) hX0 0;have u1:=aD (cs:=[_]) hX1 0;have u2:=aD (cs:=[_]) hX2 0;have hl0:=(Array.getElem?_eq_some_iff.1 hX0).1;have hl1:=(Array.getElem?_eq_some_iff.1 hX1).1;have hl2:=(Array.getElem?_eq_some_iff.1 hX2).1;clear hX0 hX1 hX2;have Hv7:=zh hv7;clear hv7)|(refine⟨trivial,?_⟩))
      gi_region
      all_goals
       gi_wp2
       exact eG9 Hbel.out hz Hb7.out Hr2.out Hr0.out Hr1.out Hrr2.out
    ·have b6:(aB1 a.kind a.session a.keep a.data.length != 0)=true:=by simpa [dX5] using hf
     have Hr2:=zh (show eB4 s=([],(acc.length:Int),4) by rw[Hrs.out,readFrom,if_neg hfull,okS,ha,if_neg (fun h=>hf h.1)])
     clear hfull hf
     gi_wp2_with (first|(refine⟨trivial,?_⟩;gi_at_call 59;(with_reducible refine (CallsIn.inRound l (callsIn_wide.2 (eC3 _ ?hT x hxl))).mono ?_);(case hT=>exact HT.out.below (Hbel.out.mono zn));rw[ha];rintro e w5 ⟨D,d,rfl,hbs,hv5,hcd⟩;have HD:=zh hbs;have Hcd:=zh hcd;have Hv5:=zh hv5;have hz5:=hv5.size;obtain⟨c0,c1,c2,c3,f0,f1,f2,f3⟩:=dZ1 (aK w5 #[.int .i64 a.kind,.int .i64 a.session,.int .i64 a.keep,.slice D a.data.length d] 46);have Hb5:=zh (hv5.alloc AO (.cells #[.int .i64 a.kind,.int .i64 a.session,.int .i64 a.keep,.slice D a.data.length d] 46));have q3a:=(Hb5.out.cell (p:=⟨w.heap.size+3,0,none⟩) ZC5).trans q3;clear hbs hv5 hcd)|(refine⟨trivial,?_⟩;gi_at_call 35;(with_reducible refine (CallsIn.inRound l (callsIn_wide.2 (bC4 _ a.kind a.session a.keep D a.data.length d))).mono ?_);skip;rintro e w6 ⟨rfl,hv6⟩;have hz6:=hv6.size;have Hb6:=zh (Hb5.out.next hv6 Hb5.out.size);obtain⟨d0,d1,d2,d3,g0,g1,g2,g3⟩:=dZ1 ((hv6.block w5.heap.size ZH2).trans (aK w5 #[.int .i64 a.kind,.int .i64 a.session,.int .i64 a.keep,.slice D a.data.length d] 46));have hg6:w5.heap.size<w6.heap.size:=(by simp at hz6;omega);have q3b:=(Hb6.out.cell (p:=⟨w.heap.size+3,0,none⟩) ZC5).trans q3;have hX0:=(Hb6.out.block w.heap.size AO).trans Hr0.out;have hX1:=(Hb6.out.block (w.heap.size+1) AO).trans Hr1.out;have hX2:=(Hb6.out.block (w.heap.size+2) AO).trans Hrr2.out;have x0:=aA (cs:=[_]) hX0 0;have x1:=aA (cs:=[_]) hX1 0;have x2:=aA (cs:=[_]) hX2 0;simp only[List.getElem?_cons_zero] at x0 x1 x2;have y0:=aD (cs:=[_]) hX0 0;have y1:=aD (cs:=[_]) hX1 0;have y2:=aD (cs:=[_]) hX2 0;have hl0:=(Array.getElem?_eq_some_iff.1 hX0).1;have hl1:=(Array.getElem?_eq_some_iff.1 hX1).1;have hl2:=(Array.getElem?_eq_some_iff.1 hX2).1;clear hX0 hX1 hX2;clear hv6)|(refine⟨trivial,?_⟩))
     gi_region
     all_goals
      gi_wp2
      exact eG9 Hbel.out hz Hb6.out Hr2.out Hr0.out Hr1.out Hrr2.out
  case done =>
   rintro W ⟨hz,hbel,⟨acc,v,hrf,hac,hb3,hown⟩,hr0,hr1,hr2⟩ hD
   rw[hsz0] at hD ⊢
   have hrs:=Hr.out
   rw[show linesOf s=linesOf s++[] from (List.append_nil _).symm,hrf] at hrs
   have Hrs:=zh (show eB4 s=(acc,0,0) from hrs)
   obtain⟨A0,c0,rfl,hcap,hsl0⟩:=hown.readc leRc_stays
   have q3:=aA (cs:=[_]) hb3 0
   simp only[List.getElem?_cons_zero] at q3
   have f0:=aD (cs:=[_]) hr0 0
   have z0:=aA (cs:=[_]) hr0 0
   have f1:=aD (cs:=[_]) hr1 0
   have z1:=aA (cs:=[_]) hr1 0
   have f2:=aD (cs:=[_]) hr2 0
   have z2:=aA (cs:=[_]) hr2 0
   simp only[List.getElem?_cons_zero] at z0 z1 z2
   have Hcap:=zh hcap
   have Hr0:=zh hr0
   have Hr1:=zh hr1
   have Hr2:=zh hr2
   have Hsl:=zh hsl0
   have Hbel:=zh hbel
   have HD:=zh hD
   have hlt:w.heap.size+2<W.heap.size:=by omega
   clear hrs hrf hown hcap hsl0 hbel hD hac hr0 hr1 hr2 hb3
   gi_wp2
   obtain⟨y0,y1,y2⟩:=eG7 (x':=.slice A0 acc.length c0) (y':=.int .i64 0) (z':=.int .i64 0) Hr0.out Hr1.out Hr2.out
   have hD2:=(eG6 (x:=.slice A0 acc.length c0) (y:=.int .i64 0) (z:=.int .i64 0) (show w.heap.size+5≠w.heap.size∧w.heap.size+5≠w.heap.size+1∧w.heap.size+5≠w.heap.size+2 by omega) (Array.getElem?_eq_some_iff.1 HD.out).1).trans HD.out
   have hbe:=((Hbel.out.setCell (p:=⟨w.heap.size,0,none⟩) zn (.slice A0 acc.length c0)).setCell (p:=⟨w.heap.size+1,0,none⟩) ZH2 (.int .i64 0)).setCell (p:=⟨w.heap.size+2,0,none⟩) ZH2 (.int .i64 0)
   have hsm:aC (aB (w.heap.size+7)) W (((W.setCell ⟨w.heap.size,0,none⟩ (.slice A0 acc.length c0)).setCell ⟨w.heap.size+1,0,none⟩ (.int .i64 0)).setCell ⟨w.heap.size+2,0,none⟩ (.int .i64 0)) :=
    (((aC.refl _ _).setCell (p:=⟨w.heap.size,0,none⟩) (fun h=>by have h':w.heap.size+7≤w.heap.size:=h;omega) _).setCell (p:=⟨w.heap.size+1,0,none⟩) (fun h=>by have h':w.heap.size+7≤w.heap.size+1:=h;omega) _).setCell (p:=⟨w.heap.size+2,0,none⟩) (fun h=>by have h':w.heap.size+7≤w.heap.size+2:=h;omega) _
   generalize ((W.setCell ⟨w.heap.size,0,none⟩ (.slice A0 acc.length c0)).setCell ⟨w.heap.size+1,0,none⟩ (.int .i64 0)).setCell ⟨w.heap.size+2,0,none⟩ (.int .i64 0)=V at *
   refine⟨by simp,.inl ⟨_,_,rfl,run_takeDeferred hD2,?_⟩⟩
   have p0:=eG8 (k:=w.heap.size+5) (o:=.deferred none) y0 AO
   have p1:=eG8 (k:=w.heap.size+5) (o:=.deferred none) y1 AO
   have p2:=eG8 (k:=w.heap.size+5) (o:=.deferred none) y2 AO
   refine⟨.tuple #[.slice A0 acc.length c0,.int .i64 0,.int .i64 0],by simp[results,Tryz.results28,go_sem,p0,p1,p2],?_⟩
   rw[Hrs.out]
   exact⟨A0,c0,rfl,Hcap.out,((Hsl.out.same leRc_stays hsm).same leRc_stays ⟨by simp,fun j hj hjl=>World.putObj_heap_other (fun e=>by have h':w.heap.size+7≤j:=hj;omega)⟩).lo leRc_stays AO,hbe.trans ((Below.refl _ _).grown (grownBy_putObj' V _ _) hbe.size (fun j e=>by cases e;omega))⟩
  case stop =>
   rintro c W ⟨rfl,hz,hbel,hr,hr0,hr1,hr2⟩ hD
   rw[hsz0] at hD ⊢
   gi_wp2
   refine⟨by simp,.inl ⟨_,_,rfl,run_takeDeferred hD,?_⟩⟩
   have p0:=eG8 (k:=w.heap.size+5) (o:=.deferred none) hr0 AO
   have p1:=eG8 (k:=w.heap.size+5) (o:=.deferred none) hr1 AO
   have p2:=eG8 (k:=w.heap.size+5) (o:=.deferred none) hr2 AO
   refine⟨.tuple #[.slice none 0 0,.int .i64 (eB4 s).2.1,.int .i64 (eB4 s).2.2],by simp[results,Tryz.results28,go_sem,p0,p1,p2],?_⟩
   refine⟨none,0,by rw[hr];rfl,by rw[hr];exact zn,by rw[hr];exact SL.nil,hbel.trans ((Below.refl _ _).grown (grownBy_putObj' W _ _) hbel.size (fun j e=>by cases e;omega))⟩
end Go.Proofs.YtablgnacmpcfeaaGreatDoor
namespace Go.Proofs.YtablgnacmpcfeaaGreatDoor
open Go.RowKit
set_option linter.unusedVariables false
set_option linter.unusedSimpArgs false
set_option maxRecDepth 100000
set_option maxHeartbeats 8000000
theorem eH0 : "*" ++ "errors.errorString" = "*errors.errorString" := by decide
theorem eH1 (u : TypeId) (h : Tryz.prog.typeName? 3 u = some "*errors.errorString") : u = 318 :=
  typeName_ptr_named (nm := "errors.errorString") (by rw [eH0]; kernel_rfl) ZG0 ZD9 u (by rw [eH0]; exact h)
theorem rdTabs_of {W : World} (h : laidMet Tryz.prog [("math/bits.deBruijn32tab", Rows.laid_math_bits_deBruijn32tab), ("math/bits.deBruijn64tab", Rows.laid_math_bits_deBruijn64tab), ("internal/strconv.uint64pow10", Rows.laid_internal_strconv_uint64pow10), ("unicode/utf8.acceptRanges", Rows.laid_unicode_utf8_acceptRanges), ("strconv.ErrRange", Rows.laid_strconv_ErrRange), ("strconv.ErrSyntax", Rows.laid_strconv_ErrSyntax), ("canopy/lines.words", Rows.laid_canopy_lines_words), ("unicode/utf8.first", Rows.laid_unicode_utf8_first)] W) (hs : W.ShapedOpen Tryz.prog) : eB6 W := by
  have h1 : laidMet Tryz.prog [("math/bits.deBruijn32tab", Rows.laid_math_bits_deBruijn32tab), ("math/bits.deBruijn64tab", Rows.laid_math_bits_deBruijn64tab), ("internal/strconv.uint64pow10", Rows.laid_internal_strconv_uint64pow10), ("canopy/lines.words", Rows.laid_canopy_lines_words)] W := by
    have := laidMet.filter (fun x => x.1 == "math/bits.deBruijn32tab" || x.1 == "math/bits.deBruijn64tab" || x.1 == "internal/strconv.uint64pow10" || x.1 == "canopy/lines.words") h
    simpa using this
  have h2 : laidMet Tryz.prog [("strconv.ErrRange", Rows.laid_strconv_ErrRange)] W := by
    have := laidMet.filter (fun x => x.1 == "strconv.ErrRange") h
    simpa using this
  have h3 : laidMet Tryz.prog [("strconv.ErrSyntax", Rows.laid_strconv_ErrSyntax)] W := by
    have := laidMet.filter (fun x => x.1 == "strconv.ErrSyntax") h
    simpa using this
  obtain ⟨a2, s2, v2, -, -, -⟩ := laid_sentinel h2 (by kernel_rfl : Tryz.prog.globalNamed "strconv.ErrRange" = some 4) (by kernel_rfl : (Tryz.prog.globals[4]?).map (·.type) = some 145) Tryz.underlying145 eH1 Tryz.underlying318 Tryz.underlying320 rfl rfl Tryz.underlying9 ZG0 ZG0
  obtain ⟨a3, s3, v3, -, -, -⟩ := laid_sentinel h3 (by kernel_rfl : Tryz.prog.globalNamed "strconv.ErrSyntax" = some 3) (by kernel_rfl : (Tryz.prog.globals[3]?).map (·.type) = some 145) Tryz.underlying145 eH1 Tryz.underlying318 Tryz.underlying320 rfl rfl Tryz.underlying9 ZG0 ZG0
  exact ⟨eF5 h1, cell_of_shapedOpen_int (g := 2) (t := 3) (zero := #[.int .i64 0]) hs (of_decide_eq_true ZG0) ZG0 rfl ZG0 ZG0 Tryz.underlying3, ⟨_, _, v3⟩, ⟨_, _, v2⟩⟩
theorem handed_shaped {H:Type} {enc:TypeId × Value→H} {C:Checked} {os:Os} {f:FuncId} {fn:Func} {s:ChangeSpec} {cs:List PathCond} {X:World→Array Value→Prop}
  (hX:∀ (u v:World) (args:Array Value),u.heap=v.heap→X u args→X v args)
  (own:ownKnob C.prog.godebug=none) (started:os.Started) (noInit:C.prog.inits.idxOf? f=none) (hfn:C.prog.funcs[f]?=some fn)
  (wit:∃ (w:World) (tape:Tape) (i:Input),w.os=os∧(w.forCall tape i).Shaped C.prog∧i.vars=[]∧Input.okWide C.prog (w.forCall tape i) .any w.heap.size f i ∧
   ((s.pre enc C.prog fn cs false (w.forCall tape i).memory i.args∧X (w.forCall tape i).memory i.args)∧sizedMet enc C.prog fn (OpenSpec.ofChange s) false (w.forCall tape i).memory i.args)∧Assume.holds {} C.prog (lone (Frame.enter C.prog f i.args .normal) [] (w.forCall tape i)))
  (step:∀ (W:World) (base:Nat) (args:Array Value) (ds gs:List (DataW H)) (before:List MemPlace),
   (∀ (j:Nat) t v,fn.params[j]?=some t→args[j]?=some v→Value.okWide C.prog W .any base t v) →
   DataW.Whole enc C.prog fn.params.toList s.vars false W args.toList ds gs before →
   (DataW.weightsEach C.prog (fn.params.toList++s.plain.varTypes C.prog) (ds++gs)).all (·≤reachBytes)=true→X W args→W.ShapedOpen C.prog →
   Calls C.prog f args W fun e W'=>∃ v,e=.returned v∧s.post enc C.prog fn false true false false W args v W') :
  ReturnsInHanded {} C os f .any (fun w args=>(s.pre enc C.prog fn cs false w args∧X w args)∧sizedMet enc C.prog fn (OpenSpec.ofChange s) false w args) (s.post enc C.prog fn false true false false):=by
 refine returnsInHanded_of_calls own started noInit wit fun w tape i _ hsh _ hok hpre _=>?_
 obtain⟨_,_,_,g,hg,_,_,_,_,hval⟩:=hok
 obtain rfl:g=fn:=Option.some.inj (hg.symm.trans hfn)
 obtain⟨⟨⟨ds,gs,before,hw,_⟩,hx⟩,hz⟩:=hpre
 refine (step (w.forCall tape i) w.heap.size i.args ds gs before hval (DataW.Whole.of_heap (by rfl) hw) (hz.weights hw) (hX _ _ _ (by rfl) hx) hsh).mono ?_
 rintro e W' ⟨v,rfl,hp⟩
 exact ChangeSpec.post_blind hp
end Go.Proofs.YtablgnacmpcfeaaGreatDoor
