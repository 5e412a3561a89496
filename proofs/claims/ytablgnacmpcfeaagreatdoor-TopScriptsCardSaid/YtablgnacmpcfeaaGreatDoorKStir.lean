/- Stir: Walks: digest.turn, stir. The conditions of each are in its words. -/
import Derived.Deep.RegionHeld3
import Derived.Deep.RegionWith
import Derived.StillTailTactics
import Derived.Test.YtablgnacmpcfeaaGreatDoorKKec
namespace Go.Proofs.YtablgnacmpcfeaaGreatDoor
open Go.RowKit
set_option linter.unusedVariables false
set_option linter.unusedSimpArgs false
set_option maxRecDepth 100000
set_option maxHeartbeats 8000000
theorem cR2 (w:World) (x:Ln) (n:Nat) (hn:n≤64) :
  Calls Tryz.prog 285 #[.int .u64 (uv x),.int .i64 n] w (fun e w'=>e=.returned (.int .u64 (uv (rotl x n)))∧∃ m,w'=w.drewN m):=by
 have Hr:=zh (show bits .or .u64 (IntKind.u64.wrap (uv x*2 ^ n)) (uv x / 2 ^ (64 - n))=uv (rotl x n) by have h:=cT9 x hn;rwa [Nat.min_eq_left hn,Nat.min_eq_left AO] at h)
 have h2:IntKind.i64.wrap (64 - (n:Int))=((64 - n:Nat):Int):=by rw[IntWalk.i64_in _ AO];omega
 have h3:(0:Int)≤64 - (n:Int):=by omega
 have h4:(0:Int)≤(n:Int):=by omega
 go_enter Tryz.func285,Tryz.ntmps285
 go_wp2_with fail
 go_quiet (fail)
 go_wp2
 go_ret
 refine⟨?_,_,rfl⟩
 rw[← Hr.out]
 rfl
theorem turn_one (w:World) (x:Ln):Calls Tryz.prog 285 #[.int .u64 (uv x),.int .i64 1] w (fun e w'=>e=.returned (.int .u64 (uv (rotl x 1)))∧∃ m,w'=w.drewN m):=cR2 w x 1 AO
abbrev StB (w:World) (g:Nat) (l:List Ln):Prop:=w.heap[g]?=some (.cells (uc l).toArray 310 (0,0))
abbrev FvB (w:World) (g:Nat) (l:List Ln):Prop:=w.heap[g]?=some (.cells (uc l).toArray 330 (0,0))
theorem StB.same {S:Nat→Prop} {w w':World} {g:Nat} {l:List Ln} (h:StB w g l) (hb:aC S w w') (hS:S g):StB w' g l:=(hb.block g hS (Array.getElem?_eq_some_iff.1 h).1).trans h
theorem StB.set {w:World} {g:Nat} {l:List Ln} (h:StB w g l) (k:Nat) (x:Ln):StB (w.setCell ⟨g,k,none⟩ (.int .u64 (uv x))) g (l.set k x):=by
 unfold StB
 rw[heap_setCell_same _ _ _ _ _ _ h]
 exact congrArg (fun c=>some (Obj.cells c _ (0,0))) (uc_set l k x)
theorem FvB.set {w:World} {g:Nat} {l:List Ln} (h:FvB w g l) (k:Nat) (x:Ln):FvB (w.setCell ⟨g,k,none⟩ (.int .u64 (uv x))) g (l.set k x):=by
 unfold FvB
 rw[heap_setCell_same _ _ _ _ _ _ h]
 exact congrArg (fun c=>some (Obj.cells c _ (0,0))) (uc_set l k x)
structure aF6 (g:Nat) (w w':World):Prop where
 same:aC (fun b=>b≠g∧b<w.heap.size) w w'
 below:Below g w w'
theorem aF6.refl (g:Nat) (w:World):aF6 g w w:=⟨aC.refl _ _,Below.refl _ _⟩
theorem aF6.drew {g:Nat} {w w':World} (h:aF6 g w w'):aF6 g w w'.drew:=⟨h.same.drew,h.below.drew⟩
theorem aF6.drewN {g:Nat} {w w':World} (h:aF6 g w w') (n:Nat):aF6 g w (w'.drewN n):=⟨h.same.drewN n,below_drewN h.below n⟩
theorem aF6.alloc {g:Nat} {w w':World} (h:aF6 g w w') (hg:g≤w'.heap.size) (o:Obj):aF6 g w (w'.alloc o):=⟨h.same.alloc o,h.below.alloc hg o⟩
theorem aF6.set {g:Nat} {w w':World} (h:aF6 g w w') (k:Nat) (v:Value):aF6 g w (w'.setCell ⟨g,k,none⟩ v):=⟨h.same.setCell (fun hq=>hq.1 rfl) v,h.below.setCell zn v⟩
theorem aF6.ne {g:Nat} {w w':World} (h:aF6 g w w'):aC (fun b=>b≠g) w w':=⟨h.same.size,fun b hb hl=>h.same.block b ⟨hb,hl⟩ hl⟩
theorem aF6.trans {g:Nat} {a b c:World} (h:aF6 g a b) (k:aF6 g b c):aF6 g a c :=
 ⟨⟨Nat.le_trans h.same.size k.same.size,fun x hx hl=>(k.same.block x ⟨hx.1,Nat.lt_of_lt_of_le hx.2 h.same.size⟩ (Nat.lt_of_lt_of_le hl h.same.size)).trans (h.same.block x hx hl)⟩,h.below.trans k.below⟩
theorem bP0 (w:World) (ag:List Value) (hn:ag.length=24) {k:Nat} (hk:k<24) {v:Value} (hv:ag[k]?=some v) :
  (Instr.index 332 (.agg ag.toArray) (.int .i64 (k:Int))).run Tryz.prog w=.ok v w:=by
 have hu:=Tryz.underlying332
 have hs:∀ w,(sizeOf 3).run Tryz.prog w=.ok 1 w:=fun w=>by
  have hi:(Tryz.prog.info? 3).map (·.size)=some 1:=by kernel_rfl
  cases hq:Tryz.prog.info? 3 with
  | none=>rw[hq] at hi;cases hi
  | some i=>rw[hq] at hi;simp[sizeOf,typeInfo,hq];simpa using hi
 have e0:(0:Int)≤(k:Int):=by omega
 have e1:(k:Int)<((24:Nat):Int):=by omega
 have hui:=Tryz.underlying3
 have ha:∀ w,(isAgg 3).run Tryz.prog w=.ok false w:=fun w=>by
  unfold isAgg
  rw[Sem.run_bind,run_underlying hui w]
  rfl
 have hv':ag.toArray[k]?=some v:=by simpa using hv
 simp[Instr.index,asIntOf,Sem.run_bind,run_underlying hu,hs,e0,e1]
 rw[if_pos hk]
 simp[part,Sem.run_bind,ha,hv]
theorem bT7 (w:World) (g y:Nat) (hy:y+5≤25) :
  (Instr.sliceAt 310 (.pointer (some ⟨g,0,none⟩)) (some (.int .i64 (y:Int))) (some (.int .i64 ((y:Int)+5))) none).run Tryz.prog w=.ok (.slice (some ⟨g,y,none⟩) 5 (25 - y)) w:=by
 have hu:=Tryz.underlying310
 have hs:∀ w,(sizeOf 292).run Tryz.prog w=.ok 1 w:=fun w=>by
  have hi:(Tryz.prog.info? 292).map (·.size)=some 1:=by kernel_rfl
  cases hq:Tryz.prog.info? 292 with
  | none=>rw[hq] at hi;cases hi
  | some i=>rw[hq] at hi;simp[sizeOf,typeInfo,hq];simpa using hi
 have e0:(0:Int)≤(y:Int):=by omega
 have e1:(0:Int)≤(y:Int)+5:=by omega
 have e2:(y:Int)+5≤25:=by omega
 have e3:(y:Int)≤(y:Int)+5:=by omega
 have e4:((y:Int)+5).toNat=y+5:=by omega
 have b1:∀ w,(Instr.sliceBound (.int .i64 ((y:Int)+5)) 25 .sliceAlen).run Tryz.prog w=.ok (y+5) w:=fun w=>by
  simp[Instr.sliceBound,asIntOf,Sem.run_bind,e1,e2,e4]
 have b2:∀ w,(Instr.sliceBound (.int .i64 (y:Int)) (y+5) .sliceB).run Tryz.prog w=.ok y w:=fun w=>by
  simp[Instr.sliceBound,asIntOf,Sem.run_bind]
  omega
 have h5:y+5 - y=5:=by omega
 have h25:¬ 25=y:=by omega
 simp[Instr.sliceAt,Instr.sliceBounds,Instr.sureAddr,asIntOf,Sem.run_bind,run_underlying hu,hs,b1,b2,h5,h25,Addr.add_mid]
theorem cL8 (w:World) (g y c:Nat):(Instr.arrayAt 330 (.slice (some ⟨g,y,none⟩) 5 c)).run Tryz.prog w=.ok (.pointer (some ⟨g,y,none⟩)) w:=by
 have hu:=Tryz.underlying330
 simp[Instr.arrayAt,Sem.run_bind,run_underlying hu]
theorem stir_ok (w:World) (g:Nat) (s:List Ln) (r:Nat) (hs:StB w g s) (hl:s.length=25) (hr:r<24) (hT:bD w) (hne:g≠8∧g≠6∧g≠7) :
  Calls Tryz.prog 264 #[.pointer (some ⟨g,0,none⟩),.int .i64 r] w (fun e w'=>e=.returned (.tuple #[])∧StB w' g (bW3 s r)∧aF6 g w w'):=by
 have hg:g<w.heap.size:=(Array.getElem?_eq_some_iff.1 hs).1
 have Hs:=zh hs
 have HT:=zh hT
 have Hlt:=zh (show 8<w.heap.size∧6<w.heap.size∧7<w.heap.size from ⟨World.block_lt_of_cell? w _ (hT.rounds 0 AO),World.block_lt_of_cell? w _ (hT.goes 0 _ rfl),World.block_lt_of_cell? w _ (hT.turns 0 AO)⟩)
 clear hs hT
 go_enter Tryz.func264,Tryz.ntmps264
 go_wp2
 go_loopw [5,14] (fun _ i wr=>∃ k:Nat,k≤5∧i=.int .i64 k∧FvB wr w.heap.size (aZ4 s k)∧Below w.heap.size w wr) (fun _ i _=>5 - (intOf i).toNat)
 case atStart=>exact⟨0,AO,rfl,aK w _ _,(Below.refl _ _).alloc zn _⟩
 case round =>
  obtain⟨k,hk,rfl,hC,hB⟩:=hrel
  have HC:=zh hC
  have HB:=zh hB
  clear hC hB
  by_cases hlt:k<5
  ·have Hd:=zh (show StB wr.drew g s∧FvB wr.drew w.heap.size (aZ4 s k)∧Below w.heap.size w wr.drew from ⟨(HB.out.block g hg).trans Hs.out,HC.out,HB.out.drew⟩)
   have m5:IntKind.i64.wrap ((k:Int)+5)=(k:Int)+5:=IntWalk.i64_in _ AO
   have p5:(0:Int)≤(k:Int)+5:=by omega
   have q5:(k:Int)+5<25:=by omega
   have t5:((k:Int)+5).toNat=k+5:=by omega
   have m10:IntKind.i64.wrap ((k:Int)+10)=(k:Int)+10:=IntWalk.i64_in _ AO
   have p10:(0:Int)≤(k:Int)+10:=by omega
   have q10:(k:Int)+10<25:=by omega
   have t10:((k:Int)+10).toNat=k+10:=by omega
   have m15:IntKind.i64.wrap ((k:Int)+15)=(k:Int)+15:=IntWalk.i64_in _ AO
   have p15:(0:Int)≤(k:Int)+15:=by omega
   have q15:(k:Int)+15<25:=by omega
   have t15:((k:Int)+15).toNat=k+15:=by omega
   have m20:IntKind.i64.wrap ((k:Int)+20)=(k:Int)+20:=IntWalk.i64_in _ AO
   have p20:(0:Int)≤(k:Int)+20:=by omega
   have q20:(k:Int)+20<25:=by omega
   have t20:((k:Int)+20).toNat=k+20:=by omega
   have n0:(k:Int)<25:=by omega
   have n0':(k:Int)<5:=by omega
   go_wp2_with fail
   refine wp_region_still_tail 35 ZG0 ZG0 ?_
   change wpStill _ _ wr.drew (fun a'=>wpList _ _ _ _ a' wr.drew) _ _
   generalize wr.drew=wd at Hd ⊢
   have c0:=aF0 Hd.out.1 (k:=k) AO
   have c1:=aF0 Hd.out.1 (k:=k+5) AO
   have c2:=aF0 Hd.out.1 (k:=k+10) AO
   have c3:=aF0 Hd.out.1 (k:=k+15) AO
   have c4:=aF0 Hd.out.1 (k:=k+20) AO
   have fz:=bA8 Hd.out.2.1 k
   have cz:=aF0 Hd.out.2.1 (k:=k) (by rw[bO8];omega)
   (simp only[List.take_succ_cons,List.take_zero,List.drop_succ_cons,List.drop_zero];(repeat (refine wpStill_step (fun K hK=>?_);go_simp;refine hK _ ?_;clear hK K));try refine wpStill_nil ?_)
   go_wp2
   go_roundw
   case rel =>
    refine⟨k+1,AO,by go_num,?_,Hd.out.2.2.setCell zn _⟩
    rw[← cols_set s hlt]
    have hx:bits .xor .u64 (bits .xor .u64 (bits .xor .u64 (bits .xor .u64 (uv (ga s k)) (uv (ga s (k+5)))) (uv (ga s (k+10)))) (uv (ga s (k+15)))) (uv (ga s (k+20)))=uv (bF1 s k):=by
     rw[aT5,aT5,aT5,aT5,bF1]
    rw[hx]
    exact FvB.set Hd.out.2.1 k _
   case measure=>simp[intOf];omega
  ·have HC5:=zh (show FvB wr w.heap.size (aZ4 s 5) by have h:=HC.out;rwa [show k=5 by omega] at h)
   have hn5:¬ (k:Int)<5:=by omega
   clear hk hlt HC
   have HS0:=zh (show StB wr g (aW6 s 0) by rw[aW6,bW1 _ hl];exact (HB.out.block g hg).trans Hs.out)
   have HSm0:=zh (show aF6 g w wr from ⟨⟨HB.out.size,fun k hk _=>HB.out.block k hk.2⟩,HB.out.mono (Nat.le_of_lt hg)⟩)
   go_wp2
   go_loopw [6,7,53] (fun _ _ i w2=>∃ k:Nat,k≤25∧i=.int .i64 k∧StB w2 g (aW6 s k)∧FvB w2 w.heap.size (aZ4 s 5)∧aF6 g w w2) (fun _ _ i _=>25 - (intOf i).toNat)
   case atStart=>exact⟨0,AO,rfl,HS0.out,HC5.out,HSm0.out⟩
   case round =>
    clear HC5 HB HS0 HSm0 hn5
    obtain⟨k,hk,rfl,hS2,hC2,hM2⟩:=hrel
    have HS2:=zh hS2
    have HC2:=zh hC2
    have HM2:=zh hM2
    clear hS2 hC2 hM2
    by_cases hlt:k<25
    ·obtain⟨x,hx⟩:∃ x,x=k % 5:=⟨_,rfl⟩
     obtain⟨y,hy⟩:∃ y,y=(x+4) % 5:=⟨_,rfl⟩
     obtain⟨z,hz⟩:∃ z,z=(x+1) % 5:=⟨_,rfl⟩
     have m1:(k:Int).tmod 5=(x:Int):=by rw[Int.tmod_eq_emod_of_nonneg AO];omega
     have m2:IntKind.i64.wrap ((x:Int)+4)=(x:Int)+4:=IntWalk.i64_in _ AO
     have m3:IntKind.i64.wrap ((x:Int)+1)=(x:Int)+1:=IntWalk.i64_in _ AO
     have m4:((x:Int)+4).tmod 5=(y:Int):=by rw[Int.tmod_eq_emod_of_nonneg AO];omega
     have m5:((x:Int)+1).tmod 5=(z:Int):=by rw[Int.tmod_eq_emod_of_nonneg AO];omega
     have n1:(k:Int)<25:=by omega
     have n2:(y:Int)<5:=by omega
     have n3:(z:Int)<5:=by omega
     have Hx:=zh (show bits .xor .u64 (uv (ga s k)) (bits .xor .u64 (uv (bF1 s y)) (uv (rotl (bF1 s z) 1)))=uv (aZ2 s k) by
      rw[aT5,aT5,aZ2,hy,hz,hx])
     have hy5:y<5:=by omega
     have hz5:z<5:=by omega
     clear hx hy hz
     have ht:=fun w=>turn_one w (bF1 s z)
     go_wp2_with fail
     have c1:wr.cell? ⟨g,k,none⟩=some (.int .u64 (uv (ga s k))):=by rw[aF0 HS2.out (k:=k) (by rw[aW6,bO5];omega),aW6,cE6 _ s hlt zn]
     have c2:wr.cell? ⟨w.heap.size,y,none⟩=some (.int .u64 (uv (bF1 s y))):=by rw[aF0 HC2.out (k:=y) (by rw[bO8];omega),cR0 s AO]
     have c3:wr.cell? ⟨w.heap.size,z,none⟩=some (.int .u64 (uv (bF1 s z))):=by rw[aF0 HC2.out (k:=z) (by rw[bO8];omega),cR0 s AO]
     have fz:=bA8 HS2.out k
     have e1:(g==w.heap.size)=false:=by simp;omega
     have e2:(w.heap.size==g)=false:=by simp;omega
     have e3:¬ g=w.heap.size:=by omega
     have e4:¬ w.heap.size=g:=by omega
     go_region_with ((go_at_call 285;(with_reducible refine (ht _).mono ?_);rintro e w1 ⟨rfl,m,rfl⟩))
     all_goals
      go_wp2
      go_roundw
      case rel =>
       refine⟨k+1,AO,by go_num,?_,?_,?_⟩
       ·rw[← show (aW6 s k).set k (aZ2 s k)=aW6 s (k+1) from bW2 (aZ2 s) s,Hx.out]
        exact (show StB (wr.drewN (1+m)) g (aW6 s k) from HS2.out).set k (aZ2 s k)
       ·exact (Below.heap_setCell _ _ _ _ ZC8).trans HC2.out
       ·exact (HM2.out.drewN _).set _ _
      case measure=>simp[intOf];omega
    ·obtain⟨t,ht⟩:∃ t,t=tab 25 (aZ2 s):=⟨_,rfl⟩
     have htl:t.length=25:=by rw[ht];exact aO1 _ _
     have HSt:=zh (show StB wr g (aJ2 t t 0) by have h:=HS2.out;rw[show k=25 by omega,aW6,cE5,← ht] at h;rwa [bO6 htl])
     have Ht:=zh ht
     have HTr:=zh (show bD wr from HT.out.bsame HM2.out.same ⟨⟨fun h=>hne.1 h.symm,Hlt.out.1⟩,⟨fun h=>hne.2.1 h.symm,Hlt.out.2.1⟩,⟨fun h=>hne.2.2 h.symm,Hlt.out.2.2⟩⟩)
     have hn25:¬ (k:Int)<25:=by omega
     obtain⟨ag,hag⟩:∃ ag:List Value,ag=goesT.map fun (n:Nat)=>Value.int .i64 (n:Int):=⟨_,rfl⟩
     have hrg:wr.rangeAt 6 0 ag:=by rw[hag];exact HTr.out.goes
     have hig:(Tryz.prog.info? 332).map (·.size)=some ag.length:=by rw[hag];kernel_rfl
     have Hrg:=zh (And.intro hrg hig)
     have hgn:ag.length=24:=by rw[hag];rfl
     have Hag:=zh (show ∀ i,i<24→ag[i]?=some (.int .i64 ((goS i:Nat):Int)) by
      intro i hi
      rw[hag,List.getElem?_map,List.getElem?_eq_getElem (show i<goesT.length from hi),goS,List.getD_eq_getElem?_getD,List.getElem?_eq_getElem (show i<goesT.length from hi)]
      rfl)
     clear hrg hig
     have c1:wr.cell? ⟨g,1,none⟩=some (.int .u64 (uv (ga t (srcS 0)))):=by rw[aF0 HSt.out (k:=1) (by rw[aJ2,aO1];omega),bO6 htl];rfl
     clear ht hag hk hlt HS2 HC2
     go_wp2_with (refine wpList_load_mid rfl 332 (.global 6) rfl 6 0 rfl ag _ Hrg.out.1 Tryz.underlying332 rfl Hrg.out.2 ?_)
     go_loopw [8,9,10,84] (fun l _ _ i w2=>∃ k:Nat,k≤24∧i=.int .i64 k∧l=.int .u64 (uv (ga t (srcS k)))∧StB w2 g (aJ2 t t k)∧aF6 g w w2) (fun _ _ _ i _=>24 - (intOf i).toNat)
     case atStart=>exact⟨0,AO,rfl,rfl,HSt.out,HM2.out⟩
     case round =>
      clear HSt HTr HM2 hn25 c1 Hrg
      obtain⟨k,hk,rfl,rfl,hS3,hM3⟩:=hrel
      have HS3:=zh hS3
      have HM3:=zh hM3
      have HT3:=zh (show bD wr from HT.out.bsame hM3.same ⟨⟨fun h=>hne.1 h.symm,Hlt.out.1⟩,⟨fun h=>hne.2.1 h.symm,Hlt.out.2.1⟩,⟨fun h=>hne.2.2 h.symm,Hlt.out.2.2⟩⟩)
      clear hS3 hM3
      by_cases hlt:k<24
      ·have hix:=bP0 wr ag hgn hlt (Hag.out k hlt)
       obtain⟨to,hto⟩:∃ to,to=goS k:=⟨_,rfl⟩
       have hto5:to<25:=by rw[hto];exact (go_lt k hlt).1
       have n1:(to:Int)<25:=by omega
       have n2:(k:Int)<24:=by omega
       have c1:=HT3.out.turns k hlt
       have c2:wr.cell? ⟨g,to,none⟩=some (.int .u64 (uv (ga t (srcS (k+1))))):=by rw[aF0 HS3.out (k:=to) (by rw[aJ2,aO1];exact hto5),hto,cL7 t hlt]
       have fz:=bA8 HS3.out to
       have ht:=fun w=>cR2 w (ga t (srcS k)) (tnS k) (by have:=tn_lt k hlt;omega)
       have Hn:=zh (show (aJ2 t t k).set to (rotl (ga t (srcS k)) (tnS k))=aJ2 t t (k+1) by rw[hto];exact cL2 t t hlt)
       rw[← hto] at hix
       clear hto
       go_wp2_with fail
       go_region_with ((go_at_call 285;(with_reducible refine (ht _).mono ?_);rintro e w1 ⟨rfl,m,rfl⟩))
       all_goals
        go_wp2
        go_roundw
        case rel =>
         refine⟨k+1,AO,by go_num,rfl,?_,?_⟩
         ·rw[← Hn.out]
          exact (show StB (wr.drewN (1+m)) g (aJ2 t t k) from HS3.out).set to _
         ·exact (HM3.out.drewN _).set _ _
        case measure=>simp[intOf];omega
      ·obtain⟨m,hm⟩:∃ m,m=cL3 t:=⟨_,rfl⟩
       have hml:m.length=25:=by rw[hm];exact aO1 _ _
       have HSm:=zh (show StB wr g (bK6 m (5*0)) by have h:=HS3.out;rw[show k=24 by omega,cT6 rfl,← hm] at h;rwa [bK6,Nat.mul_zero,bW1 _ hml])
       have Hm:=zh hm
       have hn24:¬ (k:Int)<24:=by omega
       clear hm hk hlt HS3 HT3
       go_wp2
       go_loopw [11,12,13] (fun i _ _ w2=>∃ j:Nat,j≤5∧i=.int .i64 ((5*j:Nat):Int)∧StB w2 g (bK6 m (5*j))∧aF6 g w w2) (fun i _ _ _=>25 - (intOf i).toNat)
       case atStart=>exact⟨0,AO,rfl,HSm.out,HM3.out⟩
       case round =>
        clear HSm HM3 hn24
        obtain⟨j,hj,rfl,hS4,hM4⟩:=hrel
        have HS4:=zh hS4
        have HM4:=zh hM4
        have hgr:g<wr.heap.size:=(Array.getElem?_eq_some_iff.1 hS4).1
        clear hS4 hM4
        obtain⟨y,hy⟩:∃ y,y=5*j:=⟨_,rfl⟩
        rw[← hy] at HS4 ⊢
        have Hy:=zh hy
        clear hy
        by_cases hlt:j<5
        ·have hy25:y+5≤25:=by have:=Hy.out;omega
         have hs1:=bT7 wr g y hy25
         have hs2:=cL8 wr g y (25 - y)
         have Hrow:=zh (show ∀ x,x<5→ga (bK6 m y) (y+x)=ga m (y+x) from fun x hx=>cE6 _ m AO AO)
         have Hr:=zh (show wr.rangeAt g y [Value.int .u64 (uv (ga m y)),Value.int .u64 (uv (ga m (y+1))),Value.int .u64 (uv (ga m (y+2))),Value.int .u64 (uv (ga m (y+3))),Value.int .u64 (uv (ga m (y+4)))] by
          intro x v hv
          have hx:x<5:=(List.getElem?_eq_some_iff.1 hv).1
          rw[aF0 HS4.out (k:=y+x) (by rw[bK6,bO5];omega),Hrow.out x hx,← hv]
          have:x=0∨x=1∨x=2∨x=3∨x=4:=by omega
          rcases this with rfl|rfl|rfl|rfl|rfl <;> rfl)
         have n1:(y:Int)<25:=by omega
         have m1:IntKind.i64.wrap ((y:Int)+5)=(y:Int)+5:=IntWalk.i64_in _ AO
         go_wp2_with (refine wpList_load_mid rfl 330 (.tmp 113) rfl g y rfl [Value.int .u64 (uv (ga m y)),Value.int .u64 (uv (ga m (y+1))),Value.int .u64 (uv (ga m (y+2))),Value.int .u64 (uv (ga m (y+3))),Value.int .u64 (uv (ga m (y+4)))] _ Hr.out Tryz.underlying330 rfl ZG0 ?_)
         generalize hRe:wr.heap.size=R
         have hRg:g≠R:=by omega
         go_loopw [13,115] (fun _ i w2=>∃ x:Nat,x≤5∧i=.int .i64 x∧StB w2 g (bK6 m (y+x))∧FvB w2 R [ga m y,ga m (y+1),ga m (y+2),ga m (y+3),ga m (y+4)]∧aF6 g w w2) (fun _ i _=>5 - (intOf i).toNat)
         case atStart=>exact⟨0,AO,rfl,(heap_alloc_old _ _ hgr).trans HS4.out,by rw[← hRe];exact aK wr _ _,HM4.out.alloc (Nat.le_of_lt hgr) _⟩
         case round =>
          clear n1 m1 hs1 hs2 Hr Hrow hRe HS4 HM4 hgr
          obtain⟨x,hx,rfl,hS5,hF5,hM5⟩:=hrel
          have HS5:=zh hS5
          have HF5:=zh hF5
          have HM5:=zh hM5
          clear hS5 hF5 hM5
          by_cases hlt5:x<5
          ·have Hrl:=zh (show ∀ c,c<5→ga [ga m y,ga m (y+1),ga m (y+2),ga m (y+3),ga m (y+4)] c=ga m (y+c) by
            intro c hc
            have:c=0∨c=1∨c=2∨c=3∨c=4:=by omega
            rcases this with rfl|rfl|rfl|rfl|rfl <;> rfl)
           obtain⟨a,ha⟩:∃ a,a=(x+1) % 5:=⟨_,rfl⟩
           obtain⟨b,hb⟩:∃ b,b=(x+2) % 5:=⟨_,rfl⟩
           have m1:IntKind.i64.wrap ((y:Int)+(x:Int))=(y:Int)+(x:Int):=IntWalk.i64_in _ AO
           have m2:IntKind.i64.wrap ((x:Int)+1)=(x:Int)+1:=IntWalk.i64_in _ AO
           have m3:IntKind.i64.wrap ((x:Int)+2)=(x:Int)+2:=IntWalk.i64_in _ AO
           have m4:((x:Int)+1).tmod 5=(a:Int):=by rw[Int.tmod_eq_emod_of_nonneg AO];omega
           have m5:((x:Int)+2).tmod 5=(b:Int):=by rw[Int.tmod_eq_emod_of_nonneg AO];omega
           have n0:(x:Int)<5:=by omega
           have n1:(a:Int)<5:=by omega
           have n2:(b:Int)<5:=by omega
           have n3:(0:Int)≤(y:Int)+(x:Int):=by omega
           have n4:(y:Int)+(x:Int)<25:=by omega
           have n5:((y:Int)+(x:Int)).toNat=y+x:=by omega
           have ha5:a<5:=by omega
           have hb5:b<5:=by omega
           have Hv:=zh (show bits .xor .u64 (uv (ga m (y+x))) (bits .and .u64 (bits .xor .u64 18446744073709551615 (uv (ga m (y+a)))) (uv (ga m (y+b))))=uv (chiS m (y+x)) by
            have e:=Hy.out
            rw[uv_not,uv_and,aT5,chiS,show ((y+x) % 5+1) % 5+(y+x) / 5*5=y+a by omega,show ((y+x) % 5+2) % 5+(y+x) / 5*5=y+b by omega])
           clear ha hb
           have Hd:=zh (show StB wr.drew g (bK6 m (y+x))∧FvB wr.drew R [ga m y,ga m (y+1),ga m (y+2),ga m (y+3),ga m (y+4)]∧aF6 g w wr.drew from ⟨HS5.out,HF5.out,HM5.out.drew⟩)
           go_wp2_with fail
           refine wp_region_still_tail 22 ZG0 ZG0 ?_
           change wpStill _ _ wr.drew (fun a'=>wpList _ _ _ _ a' wr.drew) _ _
           generalize wr.drew=wd at Hd ⊢
           have c0:wd.cell? ⟨R,x,none⟩=some (.int .u64 (uv (ga m (y+x)))):=by rw[aF0 Hd.out.2.1 (k:=x) hlt5,Hrl.out x hlt5]
           have c1:wd.cell? ⟨R,a,none⟩=some (.int .u64 (uv (ga m (y+a)))):=by rw[aF0 Hd.out.2.1 (k:=a) ha5,Hrl.out a ha5]
           have c2:wd.cell? ⟨R,b,none⟩=some (.int .u64 (uv (ga m (y+b)))):=by rw[aF0 Hd.out.2.1 (k:=b) hb5,Hrl.out b hb5]
           have cz:=aF0 Hd.out.1 (k:=y+x) (by rw[bK6,bO5];omega)
           have fz:=bA8 Hd.out.1 (y+x)
           (simp only[List.take_succ_cons,List.take_zero,List.drop_succ_cons,List.drop_zero];(repeat (refine wpStill_step (fun K hK=>?_);go_simp;refine hK _ ?_;clear hK K));try refine wpStill_nil ?_)
           go_wp2
           go_roundw
           case rel =>
            refine⟨x+1,AO,by go_num,?_,?_,?_⟩
            ·have e:=StB.set Hd.out.1 (y+x) (chiS m (y+x))
             rw[← Hv.out] at e
             rw[show bK6 m (y+(x+1))=(bK6 m (y+x)).set (y+x) (chiS m (y+x)) from (bW2 (chiS m) m).symm]
             exact e
            ·exact (Below.heap_setCell _ _ _ _ (fun h=>hRg h.symm)).trans Hd.out.2.1
            ·exact Hd.out.2.2.set _ _
           case measure=>simp[intOf];omega
          ·have HSe:=zh (show StB wr g (bK6 m (5*(j+1))) by have h:=HS5.out;have e:=Hy.out;rwa [show y+x=5*(j+1) by omega] at h)
           have he:=Hy.out
           have m1:IntKind.i64.wrap ((y:Int)+5)=((5*(j+1):Nat):Int):=by rw[IntWalk.i64_in _ AO];omega
           have hm:25 - (5*((j:Int)+1)).toNat<25 - y:=by omega
           have hn5:¬ (x:Int)<5:=by omega
           clear he hx hlt5
           go_wp2
           go_roundw
           case rel=>exact⟨j+1,AO,by go_num,HSe.out,HM5.out⟩
           case measure=>simp[intOf];omega
        ·have hgl:g<wr.heap.size:=hgr
         have HSl:=zh (show StB wr g (mixS s) by have h:=HS4.out;have e:=Hy.out;rw[show y=25 by omega,bK6,cE5,Hm.out,Ht.out] at h;exact h)
         have Hd:=zh (show StB wr.drew g (mixS s)∧bD wr.drew∧aF6 g w wr.drew from ⟨HSl.out,HT.out.bsame HM4.out.drew.same ⟨⟨fun h=>hne.1 h.symm,Hlt.out.1⟩,⟨fun h=>hne.2.1 h.symm,Hlt.out.2.1⟩,⟨fun h=>hne.2.2 h.symm,Hlt.out.2.2⟩⟩,HM4.out.drew⟩)
         have hn25:¬ (y:Int)<25:=by have:=Hy.out;omega
         have n1:(r:Int)<24:=by omega
         have Hx:=zh (aT5 (ga (mixS s) 0) (rcS r))
         clear HS4 hlt
         go_wp2_with fail
         refine wp_region_still_tail 10 ZG0 ZG0 ?_
         change wpStill _ _ wr.drew (fun a'=>wpList _ _ _ _ a' wr.drew) _ _
         generalize wr.drew=wd at Hd ⊢
         have c0:=aF0 Hd.out.1 (k:=0) (by rw[cQ9];omega)
         have c1:=Hd.out.2.1.rounds r hr
         have fz:=bA8 Hd.out.1 0
         (simp only[List.take_succ_cons,List.take_zero,List.drop_succ_cons,List.drop_zero];(repeat (refine wpStill_step (fun K hK=>?_);go_simp;refine hK _ ?_;clear hK K));try refine wpStill_nil ?_)
         go_wp2
         refine bodyPost_end (v:=.tuple #[]) (by simp[results,Tryz.results264,go_sem]) rfl ⟨rfl,?_,Hd.out.2.2.set _ _⟩
         rw[bW3,iotaS,Hx.out]
         exact StB.set Hd.out.1 0 _
end Go.Proofs.YtablgnacmpcfeaaGreatDoor
