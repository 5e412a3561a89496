/- SrvJ: Walk: the server's commit. The conditions of each are in its words. -/
import Derived.Test.YtablgnacmpcfeaaGreatDoorKSrvR
import Derived.Test.YtablgnacmpcfeaaGreatDoorKTapeB
import Derived.Test.YtablgnacmpcfeaaGreatDoorKClashK
import Derived.Test.YtablgnacmpcfeaaGreatDoorKForestX
namespace Go.Proofs.YtablgnacmpcfeaaGreatDoor
open Go.RowKit
set_option linter.unusedVariables false
set_option linter.unusedSimpArgs false
set_option maxRecDepth 100000
set_option maxHeartbeats 8000000
theorem aX.grow0 {F : Nat → Prop} {W w1 : World} {G : Nat} {g : Eng} {fs : List (List Tn)} {m : Mem} {v : Value} {l : List Cm} (Hm : aX F W G g fs m) (hlow : ∀ b, F b → b < W.heap.size) (hown : Own 2 CmR (m.fix G) w1 0 177 v l) (hg : W.grownBy w1 (m.v 0).ownBlock) (hat : v.ownBlock = (m.v 0).ownBlock ∨ v.ownBlock = some W.heap.size) :
    aX F (w1.setCell ⟨G, 3, none⟩ v) G { g with commits := l } fs (m.row 0 v 3) ∧ aC F W (w1.setCell ⟨G, 3, none⟩ v) ∧ Below 0 W (w1.setCell ⟨G, 3, none⟩ v) := by
  refine ⟨Hm.row0 (F' := F) (w1 := w1) (v := v) (l := l) (aC.grown (aC.refl _ _) hg fun b hb hs => hs hb)
    (fun b hb => by rcases hat with h | h
                    · rw [h] at hb; exact .inl hb
                    · rw [h] at hb; cases hb; exact .inr zn)
    (by rcases hat with h | h
        · rw [h]; exact Hm.rows.apart.own 0 AO
        · rw [h]; intro e; cases e; have := Hm.lt; omega)
    (bB6 cmR_stays hown) (fun b hb => .inl ⟨hb, hlow b hb⟩), ?_⟩
  exact aP3 (G := G) (k := 3) (v := v) hlow (Below.refl _ _) hg (fun b hF => (Hm.fixF b hF).2 0 AO) (fun b hF => (Hm.fixF b hF).1)
theorem aX.grow1 {F : Nat → Prop} {W w1 : World} {G : Nat} {g : Eng} {fs : List (List Tn)} {m : Mem} {v : Value} {l : List (List Tn)} (Hm : aX F W G g fs m) (hlow : ∀ b, F b → b < W.heap.size) (hown : Own 1 FoR (m.fix G) w1 0 26 v l) (hg : W.grownBy w1 (m.v 1).ownBlock) (hat : v.ownBlock = (m.v 1).ownBlock ∨ v.ownBlock = some W.heap.size) :
    aX F (w1.setCell ⟨G, 4, none⟩ v) G g l (m.row 1 v 4) ∧ aC F W (w1.setCell ⟨G, 4, none⟩ v) ∧ Below 0 W (w1.setCell ⟨G, 4, none⟩ v) := by
  refine ⟨Hm.row1 (F' := F) (w1 := w1) (v := v) (l := l) (aC.grown (aC.refl _ _) hg fun b hb hs => hs hb)
    (fun b hb => by rcases hat with h | h
                    · rw [h] at hb; exact .inl hb
                    · rw [h] at hb; cases hb; exact .inr zn)
    (by rcases hat with h | h
        · rw [h]; exact Hm.rows.apart.own 1 AO
        · rw [h]; intro e; cases e; have := Hm.lt; omega)
    (bB6 foR_stays hown) (fun b hb => .inl ⟨hb, hlow b hb⟩), ?_⟩
  exact aP3 (G := G) (k := 4) (v := v) hlow (Below.refl _ _) hg (fun b hF => (Hm.fixF b hF).2 1 AO) (fun b hF => (Hm.fixF b hF).1)
theorem aX.grow2 {F : Nat → Prop} {W w1 : World} {G : Nat} {g : Eng} {fs : List (List Tn)} {m : Mem} {v : Value} {l : List Nat} (Hm : aX F W G g fs m) (hlow : ∀ b, F b → b < W.heap.size) (hown : Own 1 NaR (m.fix G) w1 0 3 v l) (hg : W.grownBy w1 (m.v 2).ownBlock) (hat : v.ownBlock = (m.v 2).ownBlock ∨ v.ownBlock = some W.heap.size) :
    aX F (w1.setCell ⟨G, 22, none⟩ v) G { g with waiting := l } fs (m.row 2 v 22) ∧ aC F W (w1.setCell ⟨G, 22, none⟩ v) ∧ Below 0 W (w1.setCell ⟨G, 22, none⟩ v) := by
  refine ⟨Hm.row2 (F' := F) (w1 := w1) (v := v) (l := l) (aC.grown (aC.refl _ _) hg fun b hb hs => hs hb)
    (fun b hb => by rcases hat with h | h
                    · rw [h] at hb; exact .inl hb
                    · rw [h] at hb; cases hb; exact .inr zn)
    (by rcases hat with h | h
        · rw [h]; exact Hm.rows.apart.own 2 AO
        · rw [h]; intro e; cases e; have := Hm.lt; omega)
    (bB6 naR_stays hown) (fun b hb => .inl ⟨hb, hlow b hb⟩), ?_⟩
  exact aP3 (G := G) (k := 22) (v := v) hlow (Below.refl _ _) hg (fun b hF => (Hm.fixF b hF).2 2 AO) (fun b hF => (Hm.fixF b hF).1)
theorem Own.sl0 {α:Type} {size:Nat} {R:(Nat→Prop)→World→List Value→α→Prop} {S:Nat→Prop} {w:World} {e:TypeId} {A:Option Addr} {n c:Nat} {l:List α} (hR:bI R) (h:Own size R S w 0 e (.slice A n c) l):SL size R All w A l:=by
 have h1:Own size R (aB 0) w 0 e (.slice A n c) l:=h.keep hR (T:=All) (aC.refl _ _) (fun _ _ _=>trivial) (fun _ _=>trivial) (fun b _ _=>Nat.zero_le b) zn
 obtain⟨A',c',h2,_,h3⟩:=h1.readc hR
 cases h2
 exact h3.z hR
theorem bS5 {l:List Cm} {c:Cm} {k:Nat} (hk:k≤l.length):aS (l++[c]) k=aS l k:=by
 unfold aS
 rw[List.take_append_of_le_length hk]
theorem cI6 (l:List Cm) (c:Cm):(List.range ((l++[c]).length+1)).map (aS (l++[c]))=(List.range (l.length+1)).map (aS l)++[(aC4 (aS l l.length) c.2).1]:=by
 rw[List.length_append,List.length_singleton,List.range_succ,List.map_append,List.map_singleton]
 congr 1
 ·refine List.map_congr_left fun k hk=>?_
  rw[List.mem_range] at hk
  exact bS5 AO
 ·rw[bZ5 (l:=l++[c]) (k:=l.length) ZH2,bS5 zn]
  simp
def bE1 (g:Eng) (s:Nat) (t:Tx) (nt:Tp):Eng:={ g.put s ⟨none,true⟩ with tape:=nt,commits:=g.commits++[g.next t],waiting:=g.waiting++[s] }
theorem cX0 {g:Eng} {s:Nat} (t:Tx) (nt:Tp) (hs:s<g.sess.length):({ ({ (g.txn s none) with tape:=nt }:Eng).put s ⟨(({ (g.txn s none) with tape:=nt }:Eng).at s).txn,true⟩ with commits:=g.commits++[g.next t],waiting:=g.waiting++[s] }:Eng)=bE1 g s t nt:=by
 have h1:(({ (g.txn s none) with tape:=nt }:Eng).at s).txn=none:=by
  show ((g.put s ⟨none,(g.at s).waits⟩).at s).txn=none
  rw[aH6 g s s _ hs,if_pos rfl]
 rw[h1]
 unfold bE1 Eng.put Eng.txn Eng.put
 simp only[List.set_set]
theorem box2s {w:World} {g:Nat} {t:TypeId} {a b:Value} (h:w.heap[g]?=some (.cells #[a,b] t (0,0))):w.cell? ⟨g,0,none⟩=some a∧w.cell? ⟨g,1,none⟩=some b :=
 ⟨aA (cs:=[a,b]) h 0,aA (cs:=[a,b]) h 1⟩
theorem rp_turn {S:Nat→Prop} {w:World} (s:Nat) (t:Int):RpR S w [.int .i64 (s:Int),.int .i64 0,.int .i64 t,.bool false,.slice none 0 0,.slice none 0 0,.slice none 0 0,.bool false,.slice none 0 0,.slice none 0 0,.slice none 0 0,.bool false,.slice none 0 0,.slice none 0 0,.slice none 0 0] (bC5 s t):=bL8 s 0 t
theorem aX.grown0 {F:Nat→Prop} {w W w1:World} {G:Nat} {g:Eng} {fs:List (List Tn)} {m:Mem} {v0 v:Value} {l:List Cm} (Hm:aX F w G g fs m) (hlow:∀ b,F b→b<w.heap.size) (hv:m.v 0=v0) (hW:Below w.heap.size w W) (hown:Own 2 CmR (m.fix G) w1 0 177 v l) (hg:W.grownBy w1 v0.ownBlock) (hat:v.ownBlock=v0.ownBlock∨v.ownBlock=some W.heap.size) :
  aX F (w1.setCell ⟨G,3,none⟩ v) G { g with commits:=l } fs (m.row 0 v 3)∧aC F w (w1.setCell ⟨G,3,none⟩ v)∧Below 0 w (w1.setCell ⟨G,3,none⟩ v):=by
 rw[← hv] at hg hat
 obtain⟨h1,h2,h3⟩:=aX.grow0 (Hm.below (F':=F) hW fun b hb=>.inl hb) (fun b hb=>Nat.lt_of_lt_of_le (hlow b hb) hW.size) hown hg hat
 exact⟨h1,(aC.of_below hW).trans h2,(aU0 hW).trans h3⟩
theorem aX.grown1 {F:Nat→Prop} {w W w1:World} {G:Nat} {g:Eng} {fs:List (List Tn)} {m:Mem} {v0 v:Value} {l:List (List Tn)} (Hm:aX F w G g fs m) (hlow:∀ b,F b→b<w.heap.size) (hv:m.v 1=v0) (hW:Below w.heap.size w W) (hown:Own 1 FoR (m.fix G) w1 0 26 v l) (hg:W.grownBy w1 v0.ownBlock) (hat:v.ownBlock=v0.ownBlock∨v.ownBlock=some W.heap.size) :
  aX F (w1.setCell ⟨G,4,none⟩ v) G g l (m.row 1 v 4)∧aC F w (w1.setCell ⟨G,4,none⟩ v)∧Below 0 w (w1.setCell ⟨G,4,none⟩ v):=by
 rw[← hv] at hg hat
 obtain⟨h1,h2,h3⟩:=aX.grow1 (Hm.below (F':=F) hW fun b hb=>.inl hb) (fun b hb=>Nat.lt_of_lt_of_le (hlow b hb) hW.size) hown hg hat
 exact⟨h1,(aC.of_below hW).trans h2,(aU0 hW).trans h3⟩
theorem aX.grown2 {F:Nat→Prop} {w W w1:World} {G:Nat} {g:Eng} {fs:List (List Tn)} {m:Mem} {v0 v:Value} {l:List Nat} (Hm:aX F w G g fs m) (hlow:∀ b,F b→b<w.heap.size) (hv:m.v 2=v0) (hW:Below w.heap.size w W) (hown:Own 1 NaR (m.fix G) w1 0 3 v l) (hg:W.grownBy w1 v0.ownBlock) (hat:v.ownBlock=v0.ownBlock∨v.ownBlock=some W.heap.size) :
  aX F (w1.setCell ⟨G,22,none⟩ v) G { g with waiting:=l } fs (m.row 2 v 22)∧aC F w (w1.setCell ⟨G,22,none⟩ v)∧Below 0 w (w1.setCell ⟨G,22,none⟩ v):=by
 rw[← hv] at hg hat
 obtain⟨h1,h2,h3⟩:=aX.grow2 (Hm.below (F':=F) hW fun b hb=>.inl hb) (fun b hb=>Nat.lt_of_lt_of_le (hlow b hb) hW.size) hown hg hat
 exact⟨h1,(aC.of_below hW).trans h2,(aU0 hW).trans h3⟩
theorem sl_grown {α:Type} {size:Nat} {R:(Nat→Prop)→World→List Value→α→Prop} {F:Nat→Prop} {w W w1:World} {G i k:Nat} {g:Eng} {fs:List (List Tn)} {m:Mem} {v0 v:Value} {A:Option Addr} {l:List α} (hi:i<4) (Hm:aX F w G g fs m) (hv:m.v i=v0) (hW:Below w.heap.size w W) (hg:W.grownBy w1 v0.ownBlock) (hat:v.ownBlock=v0.ownBlock∨v.ownBlock=some W.heap.size) (hR:bI R) (h:SL size R (m.fix G) w A l):SL size R ((m.row i v k).fix G) (w1.setCell ⟨G,k,none⟩ v) A l:=by
 rw[← hv] at hg hat
 have h1:=h.below hR hW
 have hvv:∀ b,v.ownBlock=some b→(m.v i).ownBlock=some b∨W.heap.size≤b:=fun b hb=>by
  rcases hat with h|h
  ·rw[h] at hb;exact .inl hb
  ·rw[h] at hb;cases hb;exact .inr zn
 have h2:SL size R (fun b=>m.fix G b∧(m.row i v k).fix G b) W A l:=h1.less hR fun b hb hf=>⟨hf,Mem.fix_row hi hvv hb hf⟩
 have h3:SL size R (fun b=>m.fix G b∧(m.row i v k).fix G b) w1 A l:=h2.same hR ⟨hg.size,fun b hb hl=>hg.block b hl fun e=>hb.1.2 i hi e.symm⟩
 exact (h3.less hR fun b _ hf=>hf.2).same hR ((aC.refl _ _).setCell (p:=⟨G,k,none⟩) (fun h=>h.1 rfl) v)
theorem info_foT:(Tryz.prog.info? 26).map (fun i=>(i.zero,i.size,i.bytes))=some (some (.slice none 0 0),1,24):=by kernel_rfl
theorem info_inT:(Tryz.prog.info? 3).map (fun i=>(i.zero,i.size,i.bytes))=some (some (.int .i64 0),1,8):=by kernel_rfl
theorem cC0 {F:Nat→Prop} {w W w1:World} {G i:Nat} {g:Eng} {fs:List (List Tn)} {m:Mem} {v:Value} (Hm:aX F w G g fs m) (hv:m.v i=v) (hW:Below w.heap.size w W) (hg:W.grownBy w1 v.ownBlock) (hi:i<4):G<w1.heap.size∧∀ k,w1.cell? ⟨G,k,none⟩=m.cs[k]?∧w1.frozen? ⟨G,k,none⟩=false:=by
 rw[← hv] at hg
 have hmW:aX F W G g fs m:=Hm.below hW fun b hb=>.inl hb
 have hb:=hg.block G hmW.lt (fun e=>hmW.rows.apart.own i hi e.symm)
 exact⟨Nat.lt_of_lt_of_le hmW.lt hg.size,fun k=>⟨(World.cell?_of_block (a:=⟨G,k,none⟩) hb).trans (hmW.cell k),(World.frozen?_of_block (a:=⟨G,k,none⟩) hb).trans (hmW.frozen k)⟩⟩
theorem cI7 (w:World) (hT:bD w) (A V:Option Addr) (t:Tp) (k:Int) (ws:List Wr) (c n:Nat) (ha:Bs All w A t.1) (hx:Ws All w V ws) (h80:ws.length*80≤140737488355328) :
  Calls Tryz.prog 232 #[.agg #[.slice A t.1.length c,.int .i64 t.2],.agg #[.int .i64 k,.slice V ws.length n]] w (cG4 w (aE1 t (k,ws))):=bU0 w hT A V t (k,ws) c n ha hx h80
theorem bY0 {F:Nat→Prop} {w WF:World} {G n s:Nat} {g:Eng} {m:Mem} (H:Srv F w G g n) (Hm:aX F w G g g.forests m) (hs:s<8) (hwF:Below w.heap.size w WF):Srv F (WF.setCell ⟨G,6+s*2,none⟩ (.pointer none)) G (g.txn s none) n :=
 (aV3 H Hm hs hwF (.tuple #[])).2.1
theorem cC1 (F:Nat→Prop) (w:World) (G:Nat) (g:Eng) (n:Nat) (s:Nat) (t:Tx) (h:Srv F w G g n) (hs:s<8) (ht:(g.at s).txn=some t) (hn:n<100000) :
  Calls Tryz.prog 177 #[.pointer (some ⟨G,0,none⟩),.int .i64 (s:Int),.pointer (some ⟨G,6+s*2,none⟩)] w (aO F w G (aG2 g s t) (n+1) (.tuple #[])):=by
 obtain⟨m,hm⟩:=h.eng
 obtain⟨tb,X,xn,Y,yn,k0,hfb,hbx,hxn,hyn,hX,hY⟩:=hm.txn_at hs ht
 obtain⟨CA,cc,hv0⟩:=aP6 hm.rows.com
 obtain⟨WA,wc,hvw⟩:=aP6 hm.rows.wai
 have Hvw:=zh hvw
 clear hvw
 have c3:w.cell? ⟨G,3,none⟩=some (.slice CA g.commits.length cc):=(hm.cell 3).trans (hm.cells.com.trans (congrArg some hv0))
 have c5:w.cell? ⟨G,5,none⟩=some (.int .i64 (g.synced:Int)):=(hm.cell 5).trans hm.cells.syn
 have hG:=hm.lt
 have htb:=(Array.getElem?_eq_some_iff.1 hbx).1
 obtain⟨b0,b1,b2⟩:=bK2 hbx
 have f6:=hm.frozen (6+s*2)
 have hl3:g.commits.length≤300:=h.inv.many
 have hfew:g.synced≤g.commits.length:=h.inv.holds.few
 have hGn:¬ (w.heap.size=G):=by omega
 have hGn':¬ (G=w.heap.size):=by omega
 have hs0:(0:Int)≤(s:Int):=by omega
 have H:=zh h
 have Hm:=zh hm
 have HX:=zh hX
 have HY:=zh hY
 have Ht:=zh ht
 have Hv0:=zh hv0
 have d3:=((Below.refl w.heap.size w).alloc zn (.cells #[.int .i64 t.start,.slice X t.reads.length xn,.slice Y t.writes.length yn] 98)).cell (p:=⟨G,3,none⟩) hG
 rw[c3] at d3
 have d5:=((Below.refl w.heap.size w).alloc zn (.cells #[.int .i64 t.start,.slice X t.reads.length xn,.slice Y t.writes.length yn] 98)).cell (p:=⟨G,5,none⟩) hG
 rw[c5] at d5
 have d6:(w.alloc (.cells #[.int .i64 t.start,.slice X t.reads.length xn,.slice Y t.writes.length yn] 98)).frozen? ⟨G,6+s*2,none⟩=false:=(aX.below (F':=F) Hm.out ((Below.refl w.heap.size w).alloc zn (.cells #[.int .i64 t.start,.slice X t.reads.length xn,.slice Y t.writes.length yn] 98)) (fun b hb=>.inl hb)).frozen (6+s*2)
 have d6c:(w.alloc (.cells #[.int .i64 t.start,.slice X t.reads.length xn,.slice Y t.writes.length yn] 98)).cell? ⟨G,6+s*2,none⟩=some (.pointer (some ⟨tb,0,none⟩)):=(((Below.refl w.heap.size w).alloc zn (.cells #[.int .i64 t.start,.slice X t.reads.length xn,.slice Y t.writes.length yn] 98)).cell (p:=⟨G,6+s*2,none⟩) hG).trans k0
 clear h hm hX hY ht hv0 hbx hfb
 by_cases h0:t.writes.length=0
 ·have e0:((t.writes.length:Int)==0)=true:=by simp[h0]
  have Hv:=zh (show aG2 g s t=(g.txn s none).say (bC5 s t.start) by unfold aG2;rw[if_pos h0])
  clear h0
  go_enter Tryz.func177,Tryz.ntmps177
  go_wp2_with (go_at_call 119;(with_reducible refine (bG5 _ _ G (g.txn s none) n (bC5 s t.start) _ ((bY0 H.out Hm.out hs (Below.refl _ _)).below ((Below.refl _ _).alloc zn _)) (rp_turn s t.start) AO).mono ?_);rintro e4 w4 hp5;obtain⟨rfl,hp5⟩:=hp5)
  refine bodyPost_end (v:=.tuple #[]) (by simp[results,Tryz.results177,go_sem]) rfl ?_
  rw[Hv.out]
  exact aO.then (aV3 H.out Hm.out hs (Below.refl _ _) (.tuple #[])) (aO.from (bY0 H.out Hm.out hs (Below.refl _ _)) ((Below.refl _ _).alloc zn _) ⟨rfl,hp5⟩)
 ·have e0:((t.writes.length:Int)==0)=false:=by
   have:¬ ((t.writes.length:Int)=0):=by omega
   simpa using this
  by_cases hf:(g.commits.length:Int) - g.synced=6∨g.commits.length=300
  ·have Hv:=zh (show aG2 g s t=g.say (aE4 s 11) by unfold aG2;rw[if_neg h0,if_pos hf])
   by_cases h6:(g.commits.length:Int) - g.synced=6
   ·have e6:((g.commits.length:Int) - g.synced==6)=true:=by simpa using h6
    clear h0 hf
    go_enter Tryz.func177,Tryz.ntmps177
    go_wp2
    go_quiet (fail)
    go_wp2_with (go_at_call 117;(with_reducible refine (aF2 _ _ G g n s 11 (H.out.below (below_drewN ((Below.refl _ _).alloc zn _) _)) AO).mono ?_);rintro e4 w4 hp5;obtain⟨rfl,hp5⟩:=hp5)
    refine bodyPost_end (v:=.tuple #[]) (by simp[results,Tryz.results177,go_sem]) rfl ?_
    rw[Hv.out]
    refine aO.from H.out ?_ ⟨rfl,hp5⟩
    exact below_drewN ((Below.refl _ _).alloc zn _) _
   ·have e6:((g.commits.length:Int) - g.synced==6)=false:=by simpa using h6
    have e3:((g.commits.length:Int)==300)=true:=by
     rcases hf with hf|hf
     ·exact absurd hf h6
     ·simp[hf]
    clear h0 hf h6
    go_enter Tryz.func177,Tryz.ntmps177
    go_wp2
    go_quiet (fail)
    go_wp2_with (go_at_call 117;(with_reducible refine (aF2 _ _ G g n s 11 (H.out.below (below_drewN ((Below.refl _ _).alloc zn _) _)) AO).mono ?_);rintro e4 w4 hp5;obtain⟨rfl,hp5⟩:=hp5)
    refine bodyPost_end (v:=.tuple #[]) (by simp[results,Tryz.results177,go_sem]) rfl ?_
    rw[Hv.out]
    refine aO.from H.out ?_ ⟨rfl,hp5⟩
    exact below_drewN ((Below.refl _ _).alloc zn _) _
  ·have e6:((g.commits.length:Int) - g.synced==6)=false:=by
    have:¬ ((g.commits.length:Int) - g.synced=6):=fun h=>hf (.inl h)
    simpa using this
   have e3:((g.commits.length:Int)==300)=false:=by
    have:¬ (g.commits.length=300):=fun h=>hf (.inr h)
    simp;omega
   have Hv:=zh (show aG2 g s t=if (aZ1 t g.commits).1=true then (g.txn s none).say (aE4 s 9)
    else if (aC4 (aS g.commits g.commits.length) t.writes).2≠0 then (g.txn s none).say (aE4 s (aC4 (aS g.commits g.commits.length) t.writes).2)
    else if (aE1 g.tape (g.next t)).2≠0 then (g.txn s none).say (aE4 s (aE1 g.tape (g.next t)).2)
    else bE1 g s t (aE1 g.tape (g.next t)).1 by unfold aG2;rw[if_neg h0,if_neg hf];rfl)
   clear h0 hf
   obtain⟨cb,ce,hcl⟩:∃ cb ce,aZ1 t g.commits=(cb,ce):=⟨_,_,rfl⟩
   obtain⟨nf,ae,hap⟩:∃ nf ae,aC4 (aS g.commits g.commits.length) t.writes=(nf,ae):=⟨_,_,rfl⟩
   obtain⟨nt,pe,hpp⟩:∃ nt pe,aE1 g.tape (g.next t)=(nt,pe):=⟨_,_,rfl⟩
   have hnx:g.next t=((g.commits.length:Int)+1,t.writes):=by unfold Eng.next;rw[Int.natCast_add];rfl
   rw[hcl,hap,hpp] at Hv
   rw[hnx] at hpp
   have h80:t.writes.length*80≤140737488355328:=by
    have:=(aQ4.1 (H.out.inv.txn s t Ht.out).1).2.2.1
    omega
   have Hnx:=zh hnx
   clear hnx
   have Hcl:=zh hcl
   have Hap:=zh hap
   have Hpp:=zh hpp
   clear hcl hap hpp
   go_enter Tryz.func177,Tryz.ntmps177
   go_wp2
   go_quiet (fail)
   go_wp2_with fail
   have hwF:Below w.heap.size w ((w.alloc (.cells #[.int .i64 t.start,.slice X t.reads.length xn,.slice Y t.writes.length yn] 98)).drewN nq):=below_drewN ((Below.refl _ _).alloc zn _) _
   have hD:=aV3 H.out Hm.out hs hwF (.tuple #[])
   obtain⟨m2,hm2,hmv⟩:∃ m2,aX F (((w.alloc (.cells #[.int .i64 t.start,.slice X t.reads.length xn,.slice Y t.writes.length yn] 98)).drewN nq).setCell ⟨G,6+s*2,none⟩ (.pointer none)) G (g.txn s none) g.forests m2∧m2.v=m.v:=⟨_,(aX.below (F':=F) Hm.out hwF (fun b hb=>.inl hb)).setTxn H.out.inv.sess hs none none rfl,rfl⟩
   have hsm:aC (m.fix G) w (((w.alloc (.cells #[.int .i64 t.start,.slice X t.reads.length xn,.slice Y t.writes.length yn] 98)).drewN nq).setCell ⟨G,6+s*2,none⟩ (.pointer none)):=(aC.of_below hwF).setCell (p:=⟨G,6+s*2,none⟩) (fun h=>h.1 rfl) _
   have hbx:(((w.alloc (.cells #[.int .i64 t.start,.slice X t.reads.length xn,.slice Y t.writes.length yn] 98)).drewN nq).setCell ⟨G,6+s*2,none⟩ (.pointer none)).heap[w.heap.size]?=some (.cells #[.int .i64 t.start,.slice X t.reads.length xn,.slice Y t.writes.length yn] 98 (0,0)):=((aD1 ((w.alloc (.cells #[.int .i64 t.start,.slice X t.reads.length xn,.slice Y t.writes.length yn] 98)).drewN nq) G (6+s*2) (.pointer none)).block w.heap.size AO ZH2).trans (aK w _ _)
   obtain⟨bx,hbxe⟩:∃ bx,bx=w.heap.size:=⟨_,rfl⟩
   have hbz:bx<(((w.alloc (.cells #[.int .i64 t.start,.slice X t.reads.length xn,.slice Y t.writes.length yn] 98)).drewN nq).setCell ⟨G,6+s*2,none⟩ (.pointer none)).heap.size:=by rw[hbxe];simp[World.setCell]
   obtain⟨w2,hw2⟩:∃ w2,w2=((w.alloc (.cells #[.int .i64 t.start,.slice X t.reads.length xn,.slice Y t.writes.length yn] 98)).drewN nq).setCell ⟨G,6+s*2,none⟩ (.pointer none):=⟨_,rfl⟩
   rw[← hw2] at hD hm2 hsm hbx hbz ⊢
   rw[← hbxe] at hbx ⊢
   have hfix:m2.fix G=m.fix G:=by unfold Mem.fix;rw[hmv]
   have HD:=zh hD
   have HS2:=zh hD.2.1
   have HM2:=zh hm2
   have HY2:=zh (HY.out.same wrR_stays hsm)
   have HYA:=zh (HY2.out.z wrR_stays)
   have HX2:=zh ((HX.out.same wrR_stays hsm).z wrR_stays)
   have hcom:=hm2.rows.com
   rw[show m2.v 0=.slice CA g.commits.length cc by rw[hmv];exact Hv0.out] at hcom
   have HC2:=zh (show Cs All w2 CA g.commits from hcom.sl0 cmR_stays)
   have q3:w2.cell? ⟨G,3,none⟩=some (.slice CA g.commits.length cc):=(hm2.cell 3).trans (hm2.cells.com.trans (by rw[hmv];exact congrArg some Hv0.out))
   have gl:=hm2.lt
   have xl:=hbz
   obtain⟨x0,x1,x2⟩:=bK2 hbx
   have Hfix:=zh hfix
   clear hwF hD hsm hbx hbz hw2 hm2 hfix hcom hbxe d3 d5 d6 d6c c3 c5 k0 b0 b1 b2 f6
   go_region_held3 (fun w'=>w'.cell? ⟨G,3,none⟩=some (.slice CA g.commits.length cc)∧w'.cell? ⟨bx,0,none⟩=some (.int .i64 t.start)∧w'.cell? ⟨bx,1,none⟩=some (.slice X t.reads.length xn)∧w'.cell? ⟨bx,2,none⟩=some (.slice Y t.writes.length yn))
    (first
     | go_keep
     | exact⟨(H3.out.cell gl).trans q3,(H3.out.cell xl).trans x0,(H3.out.cell xl).trans x1,(H3.out.cell xl).trans x2⟩)
    ((go_at_call 231;(with_reducible refine (clash_ok _ X Y t xn yn CA g.commits cc ?g1 ?g2 ?g3 hxn hyn ?g4).mono ?_);(case g1=>(refine HX2.out.same wrR_stays ?_;exact SM));(case g2=>(refine HYA.out.same wrR_stays ?_;exact SM));(case g3=>(refine HC2.out.same cmR_stays ?_;exact SM));(case g4=>(unfold big;omega));rw[Hcl.out];rintro e3 w3 ⟨rfl,hb3⟩;have H3:=zh (show Below w2.heap.size w2 w3 from (Below.refl w2.heap.size w2).drew.next hb3 zn)))
   have p3:=(H3.out.cell (p:=⟨G,3,none⟩) gl).trans q3
   have y0:=(H3.out.cell (p:=⟨bx,0,none⟩) xl).trans x0
   have y1:=(H3.out.cell (p:=⟨bx,1,none⟩) xl).trans x1
   have y2:=(H3.out.cell (p:=⟨bx,2,none⟩) xl).trans x2
   have q3':=q3
   clear q3 x0 x1 x2
   cases hcb:cb with
   | true =>
    rw[hcb] at Hv
    have Hv1:=zh (Hv.out.trans (if_pos rfl))
    go_wp2_with (go_at_call 117;(with_reducible refine (aF2 (Fx F w2 w3) _ G (g.txn s none) n s 9 (HS2.out.below H3.out) AO).mono ?_);rintro e4 w4 hp5;obtain⟨rfl,hp5⟩:=hp5)
    refine bodyPost_end (v:=.tuple #[]) (by simp[results,Tryz.results177,go_sem]) rfl ?_
    rw[Hv1.out]
    exact aO.then HD.out (aO.from HS2.out H3.out ⟨rfl,hp5⟩)
   | false =>
    rw[hcb] at Hv
    have Hv1:=zh (Hv.out.trans (if_neg ZD9))
    clear Hv
    go_wp2
    have r3:=(((Below.refl w3.heap.size w3).alloc zn (.cells #[.int .i64 0,.slice none 0 0] 177)).cell (p:=⟨G,3,none⟩) (Nat.lt_of_lt_of_le gl H3.out.size)).trans p3
    have r2:=(((Below.refl w3.heap.size w3).alloc zn (.cells #[.int .i64 0,.slice none 0 0] 177)).cell (p:=⟨bx,2,none⟩) (Nat.lt_of_lt_of_le xl H3.out.size)).trans y2
    go_region
    go_wp2_with fail
    have hb4:Below w3.heap.size w3 ((w3.alloc (.cells #[.int .i64 ((g.commits.length:Int)+1),.slice Y t.writes.length yn] 177)).drew):=((Below.refl _ _).alloc zn _).drew
    have hcx:((w3.alloc (.cells #[.int .i64 ((g.commits.length:Int)+1),.slice Y t.writes.length yn] 177)).drew).heap[w3.heap.size]?=some (.cells #[.int .i64 ((g.commits.length:Int)+1),.slice Y t.writes.length yn] 177 (0,0)):=aK w3 _ _
    obtain⟨cx,hcxe⟩:∃ cx,cx=w3.heap.size:=⟨_,rfl⟩
    have hcG:cx≠G:=by have:=H3.out.size;omega
    have hw4:Below w2.heap.size w2 ((w3.alloc (.cells #[.int .i64 ((g.commits.length:Int)+1),.slice Y t.writes.length yn] 177)).drew):=H3.out.next hb4 H3.out.size
    have cl:cx<((w3.alloc (.cells #[.int .i64 ((g.commits.length:Int)+1),.slice Y t.writes.length yn] 177)).drew).heap.size:=by rw[hcxe];simp
    rw[← hcxe] at hcx ⊢
    obtain⟨w4,hw4e⟩:∃ w4,w4=(w3.alloc (.cells #[.int .i64 ((g.commits.length:Int)+1),.slice Y t.writes.length yn] 177)).drew:=⟨_,rfl⟩
    rw[← hw4e] at hcx hw4 cl ⊢
    obtain⟨v0,v1⟩:=box2s hcx
    have Hw4:=zh hw4
    have HCX:=zh hcx
    have HM4:=zh (HM2.out.below (F':=F) hw4 fun b hb=>.inl hb)
    obtain⟨gf,fcap,FA,fc,hv1,hcf,hlf,hTs,hgf⟩:∃ gf cap A c,m2.v 1=.slice (some ⟨gf,0,none⟩) (g.commits.length+1) cap∧w4.cell? ⟨gf,g.commits.length,none⟩=some (.slice A (aS g.commits g.commits.length).length c)∧(aS g.commits g.commits.length).length≤c∧Ts All w4 A (aS g.commits g.commits.length)∧gf<w4.heap.size:=aX.forest_at (g:=g.txn s none) (m:=m2) HM4.out (k:=g.commits.length) zn
    have Hv1f:=zh (show m.v 1=.slice (some ⟨gf,0,none⟩) (g.commits.length+1) fcap by rw[← hmv];exact hv1)
    have HTs:=zh hTs
    have t3:=(hw4.cell (p:=⟨G,3,none⟩) gl).trans q3'
    have t4:w4.cell? ⟨G,4,none⟩=some (.slice (some ⟨gf,0,none⟩) (g.commits.length+1) fcap):=(HM4.out.cell 4).trans (HM4.out.cells.fo.trans (congrArg some hv1))
    have HY4:=zh (HYA.out.below wrR_stays hw4)
    have gl4:=HM4.out.lt
    have hi0:(0:Int)≤(g.commits.length:Int):=by omega
    have hi1:(g.commits.length:Int)<((g.commits.length+1:Nat):Int):=by omega
    have hi2:(g.commits.length:Int)<(g.commits.length:Int)+1:=by omega
    have hi3:g.commits.length<g.commits.length+1:=by omega
    clear hb4 hcxe hw4e hw4 hcx hTs p3 y0 y1 y2 r3 r2
    go_region_held3 (fun w'=>w'.cell? ⟨G,4,none⟩=some (.slice (some ⟨gf,0,none⟩) (g.commits.length+1) fcap)∧w'.cell? ⟨G,3,none⟩=some (.slice CA g.commits.length cc)∧w'.cell? ⟨gf,g.commits.length,none⟩=some (.slice FA (aS g.commits g.commits.length).length fc)∧w'.cell? ⟨cx,1,none⟩=some (.slice Y t.writes.length yn))
    (first
     | go_keep
     | exact⟨(H3.out.cell gl4).trans t4,(H3.out.cell gl4).trans t3,(H3.out.cell hgf).trans hcf,(H3.out.cell cl).trans v1⟩)
    ((go_at_call 30;(with_reducible refine (aJ0 _ FA (aS g.commits g.commits.length) fc Y t.writes yn ?g1 ?g2).mono ?_);(case g1=>(refine HTs.out.same tenR_stays ?_;exact SM));(case g2=>(refine HY4.out.same wrR_stays ?_;exact SM));rw[Hap.out];rintro e5 w5 ⟨A5,k5,rfl,hk5,hs5,hb5⟩;have H3:=zh (show Below w4.heap.size w4 w5 from (Below.refl w4.heap.size w4).drew.next hb5 zn);have S5:=zh (show Ts (aB w4.heap.size) w5 A5 nf from hs5);clear hs5))
    have hw5:Below w2.heap.size w2 w5:=Hw4.out.next H3.out Hw4.out.size
    have Hw5:=zh hw5
    have HM5:=zh (HM2.out.below (F':=F) hw5 fun b hb=>.inl hb)
    have HY5:=zh (HYA.out.below wrR_stays hw5)
    have HD5:=zh (show Bs All w5 m2.A g.tape.1 from HM5.out.rows.dat.bz)
    have S5':=zh (S5.out.lo tenR_stays Hw4.out.size)
    have o1:w5.cell? ⟨G,1,none⟩=some (.slice m2.A g.tape.1.length m2.c):=(HM5.out.cell 1).trans HM5.out.cells.data
    have o2:w5.cell? ⟨G,2,none⟩=some (.int .i64 g.tape.2):=(HM5.out.cell 2).trans HM5.out.cells.safe
    have o3:=(H3.out.cell (p:=⟨cx,0,none⟩) cl).trans v0
    have o4:=(H3.out.cell (p:=⟨cx,1,none⟩) cl).trans v1
    have gl5:=HM5.out.lt
    have cl5:cx<w5.heap.size:=Nat.lt_of_lt_of_le cl H3.out.size
    have HC5:=zh ((H3.out.block cx cl).trans HCX.out)
    clear hw5 t3 t4 hcf v0 v1 hi0 hi1 hi2 hi3 hgf gl4 cl
    by_cases hae:ae=0
    ·have b2:(ae != 0)=false:=by simp[hae]
     have Hv2:=zh (show aG2 g s t=if pe≠0 then (g.txn s none).say (aE4 s pe) else bE1 g s t nt from Hv1.out.trans (if_neg (by show ¬ (ae≠0);simp[hae])))
     clear hae
     go_wp2_with fail
     go_region_held3 (fun w'=>w'.cell? ⟨G,1,none⟩=some (.slice m2.A g.tape.1.length m2.c)∧w'.cell? ⟨G,2,none⟩=some (.int .i64 g.tape.2)∧w'.cell? ⟨cx,0,none⟩=some (.int .i64 ((g.commits.length:Int)+1))∧w'.cell? ⟨cx,1,none⟩=some (.slice Y t.writes.length yn))
      (first
       | go_keep
       | exact⟨(H3.out.cell gl5).trans o1,(H3.out.cell gl5).trans o2,(H3.out.cell cl5).trans o3,(H3.out.cell cl5).trans o4⟩
       | exact⟨((H3.out.alloc H3.out.size _).cell gl5).trans o1,((H3.out.alloc H3.out.size _).cell gl5).trans o2,((H3.out.alloc H3.out.size _).cell cl5).trans o3,((H3.out.alloc H3.out.size _).cell cl5).trans o4⟩
       | exact⟨(((H3.out.setCell hz.2 _).setCell hz.2 _).cell gl5).trans o1,(((H3.out.setCell hz.2 _).setCell hz.2 _).cell gl5).trans o2,(((H3.out.setCell hz.2 _).setCell hz.2 _).cell cl5).trans o3,(((H3.out.setCell hz.2 _).setCell hz.2 _).cell cl5).trans o4⟩
       | exact⟨(((Below.refl w5.heap.size w5).drew.alloc ZH2 _).cell gl5).trans o1,(((Below.refl w5.heap.size w5).drew.alloc ZH2 _).cell gl5).trans o2,(((Below.refl w5.heap.size w5).drew.alloc ZH2 _).cell cl5).trans o3,(((Below.refl w5.heap.size w5).drew.alloc ZH2 _).cell cl5).trans o4⟩
       | exact⟨((Below.refl w5.heap.size w5).drew.cell gl5).trans o1,((Below.refl w5.heap.size w5).drew.cell gl5).trans o2,((Below.refl w5.heap.size w5).drew.cell cl5).trans o3,((Below.refl w5.heap.size w5).drew.cell cl5).trans o4⟩)
      ((go_at_call 232;(with_reducible refine (cI7 _ ?hT m2.A Y g.tape ((g.commits.length:Int)+1) t.writes m2.c yn ?g1 ?g2 h80).mono ?_);(case hT=>(refine bD.bsame (S:=All) (HS2.out.env.tabs.below Hw5.out) ?_ ⟨trivial,trivial,trivial⟩;exact SM));(case g1=>(refine HD5.out.bsame ?_;exact SM));(case g2=>(refine HY5.out.same wrR_stays ?_;exact SM));rw[Hpp.out];rintro e6 w3 ⟨A6,k6,rfl,hk6,d1,hb3⟩;have H3:=zh (show Below w5.heap.size w5 w3 from (by first|exact (Below.refl w5.heap.size w5).drew.next hb3 ZH2|exact ((Below.refl w5.heap.size w5).drew.alloc ZH2 _).next hb3 ZH2));(try (have hz:=And.intro (show w3.heap[w5.heap.size]?=some (.cells #[.slice none 0 0,.int .i64 0] 108 (0,0)) from (hb3.block w5.heap.size AU).trans (aK w5.drew _ _)) (Nat.le_refl w5.heap.size);obtain⟨ez0,ez1,fz0,fz1⟩:w3.cell? ⟨w5.heap.size,0,none⟩=some (.slice none 0 0)∧w3.cell? ⟨w5.heap.size,1,none⟩=some (.int .i64 0)∧w3.frozen? ⟨w5.heap.size,0,none⟩=false∧w3.frozen? ⟨w5.heap.size,1,none⟩=false:=⟨aA (cs:=[.slice none 0 0,.int .i64 0]) hz.1 0,aA (cs:=[.slice none 0 0,.int .i64 0]) hz.1 1,aD (cs:=[.slice none 0 0,.int .i64 0]) hz.1 0,aD (cs:=[.slice none 0 0,.int .i64 0]) hz.1 1⟩;have hzl:=(Array.getElem?_eq_some_iff.1 hz.1).1));have D1:=zh d1;clear d1))
     all_goals
      first
       | (have hzc:=zh (show w3.heap[w5.heap.size]?=some (.cells #[.slice none 0 0,.int .i64 0] 108 (0,0)) from hz.1);have HF1:bB7 w5 ((w3.setCell ⟨w5.heap.size,0,none⟩ (.slice A6 nt.1.length k6)).setCell ⟨w5.heap.size,1,none⟩ (.int .i64 nt.2)) w5.heap.size [.slice A6 nt.1.length k6,.int .i64 nt.2] 108:=⟨((H3.out.setCell hz.2 _).setCell hz.2 _),zn,(by rw[(heap_setCell_same _ _ _ _ _ _ (heap_setCell_same _ _ _ _ _ _ hz.1))];rfl)⟩;refine bK3 (P:=fun X=>Exit.then _ _ _ _ X) _ ?_;intro WF hWF;obtain⟨nb,hnb⟩:∃ nb,nb=w5.heap.size:=⟨_,rfl⟩;have HF:=zh (show bB7 w5 WF nb [.slice A6 nt.1.length k6,.int .i64 nt.2] 108 by rw[hnb,← hWF];exact HF1);have D11:=zh (show Bs (aB w5.heap.size) WF A6 nt.1 from by rw[← hWF];exact ((D1.out.bless (S':=fun b=>b≠w5.heap.size∧aB w5.heap.size b) (fun b hb h=>ZD1)).bsame (((aC.refl _ _).setCell (p:=⟨w5.heap.size,0,none⟩) (fun h=>h.1 rfl) _).setCell (p:=⟨w5.heap.size,1,none⟩) (fun h=>h.1 rfl) _)).bless (fun b _ h=>h.2));rw[← hnb];clear HF1 hWF hzc hnb)
       | (have HF1:bB7 w5 (w3.alloc (.cells #[.slice A6 nt.1.length k6,.int .i64 nt.2] 108)) w3.heap.size [.slice A6 nt.1.length k6,.int .i64 nt.2] 108:=⟨H3.out.alloc H3.out.size _,H3.out.size,aK w3 _ _⟩;refine bK3 (P:=fun X=>Exit.then _ _ _ _ X) _ ?_;intro WF hWF;obtain⟨nb,hnb⟩:∃ nb,nb=w3.heap.size:=⟨_,rfl⟩;have HF:=zh (show bB7 w5 WF nb [.slice A6 nt.1.length k6,.int .i64 nt.2] 108 by rw[hnb,← hWF];exact HF1);have D11:=zh (show Bs (aB w5.heap.size) WF A6 nt.1 from by rw[← hWF];exact (D1.out.bsame ((aC.refl _ _).alloc _)).bless (fun b _ h=>ZD1));rw[← hnb];clear HF1 hWF hnb)
     all_goals
      have hwF:Below w2.heap.size w2 WF:=Hw5.out.next HF.out.b Hw5.out.size
      have HwF:=zh hwF
      have HMF:=zh (HM2.out.below (F':=F) hwF fun b hb=>.inl hb)
      have SF:=zh (S5'.out.below tenR_stays HF.out.b)
      have DF:=zh (D11.out.blo Hw5.out.size)
      have HCF:=zh ((HF.out.b.block cx cl5).trans HC5.out)
      have HYF:=zh (HY2.out.below wrR_stays hwF)
      have xb1:=aA (cs:=[.slice A6 nt.1.length k6,.int .i64 nt.2]) HF.out.box 0
      have xb2:=aA (cs:=[.slice A6 nt.1.length k6,.int .i64 nt.2]) HF.out.box 1
      simp only[List.getElem?_cons_zero,List.getElem?_cons_succ] at xb1 xb2
      have cxF:cx<WF.heap.size:=Nat.lt_of_lt_of_le cl5 HF.out.b.size
      clear hwF o1 o2 o3 o4
      by_cases hpe:pe=0
      ·have b3:(pe != 0)=false:=by simp[hpe]
       have Hv3:=zh (show aG2 g s t=bE1 g s t nt from Hv2.out.trans (if_neg (by simp[hpe])))
       have k1:=(HMF.out.cell 1).trans HMF.out.cells.data
       have k2:=(HMF.out.cell 2).trans HMF.out.cells.safe
       have k7:=(HMF.out.cell (6+s*2+1)).trans (HMF.out.cells.wt s hs)
       have f1:=HMF.out.frozen 1
       have f2:=HMF.out.frozen 2
       have f7:=HMF.out.frozen (6+s*2+1)
       have n1:¬ (6+s*2+1=1):=by omega
       have n1':¬ (1=6+s*2+1):=by omega
       have n2:¬ (6+s*2+1=2):=by omega
       have n2':¬ (2=6+s*2+1):=by omega
       clear hpe
       go_wp2_with fail
       obtain⟨gq,hgq⟩:∃ gq:Eng,gq=({ (g.txn s none) with tape:=nt }:Eng).put s ⟨(({ (g.txn s none) with tape:=nt }:Eng).at s).txn,true⟩:=⟨_,rfl⟩
       obtain⟨m7,hm7,hv7⟩:∃ m7,aX F (((WF.setCell ⟨G,1,none⟩ (.slice A6 nt.1.length k6)).setCell ⟨G,2,none⟩ (.int .i64 nt.2)).setCell ⟨G,6+s*2+1,none⟩ (.bool true)) G (({ (g.txn s none) with tape:=nt }:Eng).put s ⟨(({ (g.txn s none) with tape:=nt }:Eng).at s).txn,true⟩) g.forests m7∧m7.v=m.v:=⟨_,(HMF.out.setTape A6 k6 nt (DF.out.bless fun b _ h=>HM2.out.fresh h) hk6).setWaits (by show (g.sess.set s _).length=8;rw[List.length_set];exact H.out.inv.sess) hs true,hmv⟩
       rw[← hgq] at hm7
       have hc7:gq.commits=g.commits:=by rw[hgq];rfl
       have hw7:gq.waiting=g.waiting:=by rw[hgq];rfl
       have hfx7:m7.fix G=m.fix G:=by unfold Mem.fix;rw[hv7]
       have sm7:aC (m7.fix G) WF (((WF.setCell ⟨G,1,none⟩ (.slice A6 nt.1.length k6)).setCell ⟨G,2,none⟩ (.int .i64 nt.2)).setCell ⟨G,6+s*2+1,none⟩ (.bool true)):=(((aC.refl _ _).setCell (p:=⟨G,1,none⟩) (fun h=>h.1 rfl) _).setCell (p:=⟨G,2,none⟩) (fun h=>h.1 rfl) _).setCell (p:=⟨G,6+s*2+1,none⟩) (fun h=>h.1 rfl) _
       have sg7:aC (fun b=>b≠G) WF (((WF.setCell ⟨G,1,none⟩ (.slice A6 nt.1.length k6)).setCell ⟨G,2,none⟩ (.int .i64 nt.2)).setCell ⟨G,6+s*2+1,none⟩ (.bool true)):=(((aC.refl _ _).setCell (p:=⟨G,1,none⟩) (fun h=>h rfl) _).setCell (p:=⟨G,2,none⟩) (fun h=>h rfl) _).setCell (p:=⟨G,6+s*2+1,none⟩) (fun h=>h rfl) _
       have hFG:¬ F G:=fun hF=>(HM2.out.fixF G hF).1 rfl
       have HS7:=zh (show aC F w2 (((WF.setCell ⟨G,1,none⟩ (.slice A6 nt.1.length k6)).setCell ⟨G,2,none⟩ (.int .i64 nt.2)).setCell ⟨G,6+s*2+1,none⟩ (.bool true)) from (((aC.of_below HwF.out).setCell (p:=⟨G,1,none⟩) hFG _).setCell (p:=⟨G,2,none⟩) hFG _).setCell (p:=⟨G,6+s*2+1,none⟩) hFG _)
       have HB7:=zh (show Below 0 w2 (((WF.setCell ⟨G,1,none⟩ (.slice A6 nt.1.length k6)).setCell ⟨G,2,none⟩ (.int .i64 nt.2)).setCell ⟨G,6+s*2+1,none⟩ (.bool true)) from (((aU0 HwF.out).setCell (p:=⟨G,1,none⟩) (Nat.zero_le _) _).setCell (p:=⟨G,2,none⟩) (Nat.zero_le _) _).setCell (p:=⟨G,6+s*2+1,none⟩) (Nat.zero_le _) _)
       have hY7:Ws (m7.fix G) (((WF.setCell ⟨G,1,none⟩ (.slice A6 nt.1.length k6)).setCell ⟨G,2,none⟩ (.int .i64 nt.2)).setCell ⟨G,6+s*2+1,none⟩ (.bool true)) Y t.writes:=(hfx7 ▸ HYF.out).same wrR_stays sm7
       have hS7:Ts (m7.fix G) (((WF.setCell ⟨G,1,none⟩ (.slice A6 nt.1.length k6)).setCell ⟨G,2,none⟩ (.int .i64 nt.2)).setCell ⟨G,6+s*2+1,none⟩ (.bool true)) A5 nf:=(SF.out.less tenR_stays fun b _ h=>by rw[hfx7,← Hfix.out];exact HM2.out.fresh h).same tenR_stays sm7
       have hC7:=(sg7.block cx hcG cxF).trans HCF.out
       have cl7:cx<(((WF.setCell ⟨G,1,none⟩ (.slice A6 nt.1.length k6)).setCell ⟨G,2,none⟩ (.int .i64 nt.2)).setCell ⟨G,6+s*2+1,none⟩ (.bool true)).heap.size:=by simpa [World.setCell] using cxF
       clear xb1 xb2 k1 k2 k7 f1 f2 f7 sm7 sg7 n1 n1' n2 n2'
       obtain⟨w7,hw7e⟩:∃ w7,w7=((WF.setCell ⟨G,1,none⟩ (.slice A6 nt.1.length k6)).setCell ⟨G,2,none⟩ (.int .i64 nt.2)).setCell ⟨G,6+s*2+1,none⟩ (.bool true):=⟨_,rfl⟩
       rw[← hw7e] at hm7 hY7 hS7 hC7 HS7 HB7 cl7 ⊢
       clear hw7e
       obtain⟨j0,j1⟩:=box2s hC7
       have HM7:=zh hm7
       have HY7:=zh hY7
       have HS7n:=zh hS7
       have z3:w7.cell? ⟨G,3,none⟩=some (.slice CA g.commits.length cc):=(hm7.cell 3).trans (hm7.cells.com.trans (by rw[hv7];exact congrArg some Hv0.out))
       have hlow7:∀ b,F b→b<w7.heap.size:=fun b hb=>Nat.lt_of_lt_of_le (HS2.out.low b hb) HS7.out.size
       have HL7:=zh hlow7
       have ow7:=hm7.rows.com
       rw[show m7.v 0=.slice CA g.commits.length cc by rw[hv7];exact Hv0.out,hc7] at ow7
       have HO7:=zh ow7
       have Hgq:=zh hgq
       have Hc7:=zh hc7
       have Hw7:=zh hw7
       have Hv7:=zh hv7
       have gl7:=hm7.lt
       clear hm7 hY7 hS7 hC7 hgq hc7 hw7 hv7 ow7 hlow7 hfx7
       obtain⟨i0,hi0,hz0,hz1,hz2⟩:=info_parts info_cm
       go_region_law (refine aW5 cmR_stays (S:=m7.fix G) _ rfl (.tmp 128) (.tmp 130) _ rfl 0 177 i0 _ 2 32 Tryz.underlying109 hi0 hz0 hz1 hz2 rfl ZD9 (.slice CA g.commits.length cc) g.commits ?hs ?hown (some ⟨w7.heap.size,0,none⟩) 1 [.int .i64 ((g.commits.length:Int)+1),.slice Y t.writes.length yn] ?hx rfl ?hsrc ZE8 ?hm ?hby (Nat.zero_le _) ((g.commits.length:Int)+1,t.writes) ?hd ?_;(case hs=>(simp[Act.eval,Act.put]));(case hx=>(simp[Act.eval,Act.put]));(case hsrc=>exact aE6 w7 w7.heap.size [.int .i64 ((g.commits.length:Int)+1),.slice Y t.writes.length yn] 177 rfl);(case hown=>exact Own.below cmR_stays HO7.out (((Below.refl _ _).alloc zn _).drew));(case hm=>(simp only[maxLen];omega));(case hby=>omega);(case hd=>(refine cmR_stays.same _ w7 _ _ _ (aC.of_below ?_) ⟨Y,yn,rfl,HY7.out.less wrR_stays (fun b _ hF=>⟨hF,(by have h9:=hF.2 0 AO;rw[Hv7.out,Hv0.out] at h9;exact h9)⟩),h80⟩;exact ((Below.refl _ _).alloc zn _).drew));intro v' w8 hown8 hb8 hg8 hat8;obtain⟨VA,vc,rfl⟩:=aP6 hown8;have hW8:=cC0 (i:=0) HM7.out (by rw[Hv7.out];exact Hv0.out) (((Below.refl _ _).alloc zn _).drew) hg8 AO;have e3:=(hW8.2 3).1.trans HM7.out.cells.com;have e4:=(hW8.2 4).1.trans HM7.out.cells.fo;have e22:=(hW8.2 22).1.trans HM7.out.cells.wai;have y3:=(hW8.2 3).2;have y4:=(hW8.2 4).2;have y22:=(hW8.2 22).2;clear hW8)
       all_goals
        have e70:m7.v 0=.slice CA g.commits.length cc:=by rw[Hv7.out];exact Hv0.out
        have e71:m7.v 1=.slice (some ⟨gf,0,none⟩) (g.commits.length+1) fcap:=by rw[Hv7.out];exact Hv1f.out
        have e72:m7.v 2=.slice WA g.waiting.length wc:=by rw[Hv7.out];exact Hvw.out
        rw[show (g.commits++[((g.commits.length:Int)+1,t.writes)]).length=g.commits.length+1 by simp] at hown8 hat8
        obtain⟨hm8,hs8,hbb8⟩:=HM7.out.grown0 HL7.out e70 (((Below.refl _ _).alloc zn _).drew) hown8 hg8 hat8
        have hT8:=sl_grown (i:=0) (k:=3) AO HM7.out e70 (((Below.refl _ _).alloc zn _).drew) hg8 hat8 tenR_stays HS7n.out
        obtain⟨w9,hw9⟩:∃ w9,w9=w8.setCell ⟨G,3,none⟩ (.slice VA (g.commits.length+1) vc):=⟨_,rfl⟩
        rw[← hw9] at hm8 hs8 hbb8 hT8 ⊢
        obtain⟨m8,hm8e⟩:∃ m8,m8=m7.row 0 (.slice VA (g.commits.length+1) vc) 3:=⟨_,rfl⟩
        have e81:m8.v 1=.slice (some ⟨gf,0,none⟩) (g.commits.length+1) fcap:=by rw[hm8e];exact e71
        have e82:m8.v 2=.slice WA g.waiting.length wc:=by rw[hm8e];exact e72
        rw[← hm8e] at hm8 hT8
        have HM8:=zh hm8
        have HT8:=zh hT8
        have HS8:=zh (HS7.out.trans hs8)
        have HB8:=zh (HB7.out.trans hbb8)
        have hl9:∀ b,F b→b<w9.heap.size:=fun b hb=>Nat.lt_of_lt_of_le (HL7.out b hb) hs8.size
        have HL9:=zh hl9
        have ho8:=hm8.rows.fo
        rw[e81] at ho8
        have HO8:=zh ho8
        have E81:=zh e81
        have E82:=zh e82
        have g4:w9.cell? ⟨G,4,none⟩=some (.slice (some ⟨gf,0,none⟩) (g.commits.length+1) fcap):=(hm8.cell 4).trans (hm8.cells.fo.trans (congrArg some e81))
        have hflen:g.forests.length=g.commits.length+1:=by unfold Eng.forests;simp
        have Hfl:=zh hflen
        obtain⟨i1,hi1,hy0,hy1,hy2⟩:=info_parts info_foT
        obtain⟨i2,hi2,hx0,hx1,hx2⟩:=info_parts info_inT
        have hwl:g.waiting.length≤300:=by have:=H.out.inv.wait;omega
        clear e70 e71 e72 hm8 hs8 hbb8 hT8 hm8e hw9 e81 e82 ho8 hl9 e3 e4 e22 y3 y4 y22 hown8 hb8 hg8 hat8 hflen z3 j0 j1
        go_wp2_with (first
         | (at_builtin;refine bH3 foR_stays (S:=m8.fix G) _ rfl _ _ _ rfl 0 26 i1 _ 1 24 Tryz.underlying36 hi1 hy0 hy1 hy2 rfl ZD9 _ g.forests rfl ?hown _ _ [.slice A5 nf.length k5] rfl rfl (aE6 _ _ [.slice A5 nf.length k5] _ ZH2) ZE8 ?hm ?hby (Nat.zero_le _) nf ?hd ?_;(case hown=>exact Own.below foR_stays HO8.out ((Below.refl _ _).alloc zn _));(case hm=>(rw[Hfl.out];simp only[maxLen];omega));(case hby=>(rw[Hfl.out];omega));(case hd=>exact foR_stays.same _ w9 _ _ _ (aC.of_below ((Below.refl _ _).alloc zn _)) ⟨A5,k5,rfl,hk5,HT8.out.less tenR_stays (fun b _ hF=>⟨hF,(by have h9:=hF.2 1 AO;rw[E81.out] at h9;exact h9)⟩)⟩);intro v' w10 hown9 hb9 hg9 hat9;obtain⟨VB,vb,rfl⟩:=aP6 hown9;rw[show (g.forests++[nf]).length=g.forests.length+1 by simp] at hown9 hat9;have hW9:=cC0 (i:=1) HM8.out E81.out ((Below.refl _ _).alloc zn _) hg9 AO;obtain⟨hm9,hs9,hbb9⟩:=HM8.out.grown1 HL9.out E81.out ((Below.refl _ _).alloc zn _) hown9 hg9 hat9;have HM9:=zh hm9;have HS9:=zh (HS8.out.trans hs9);have HB9:=zh (HB8.out.trans hbb9);have e4:=(hW9.2 4).1.trans HM8.out.cells.fo;have e22:w10.cell? ⟨G,22,none⟩=some (.slice WA g.waiting.length wc):=(hW9.2 22).1.trans (HM8.out.cells.wai.trans (congrArg some E82.out));have y4:=(hW9.2 4).2;have y22:=(hW9.2 22).2;clear hW9 hm9 hs9 hbb9 hown9 hb9 hg9 hat9)
         | (at_builtin;have ho9:=HM9.out.rows.wai;rw[show (m8.row 1 (.slice VB (g.forests.length+1) vb) 4).v 2=.slice WA g.waiting.length wc from E82.out,show ({ gq with commits:=g.commits++[((g.commits.length:Int)+1,t.writes)] }:Eng).waiting=g.waiting from Hw7.out] at ho9;refine bH3 naR_stays (S:=(m8.row 1 (.slice VB (g.forests.length+1) vb) 4).fix G) _ rfl _ _ _ rfl 0 3 i2 _ 1 8 Tryz.underlying43 hi2 hx0 hx1 hx2 rfl ZD9 _ g.waiting rfl ?hown _ _ [.int .i64 (s:Int)] rfl rfl (aE6 _ _ [.int .i64 (s:Int)] _ ZH2) ZE8 ?hm ?hby (Nat.zero_le _) s rfl ?_;(case hown=>exact Own.below naR_stays ho9 ((Below.refl _ _).alloc zn _));(case hm=>(simp only[maxLen];omega));(case hby=>omega);intro v' w11 hown11 hb11 hg11 hat11;obtain⟨VC,vd,rfl⟩:=aP6 hown11;rw[show (g.waiting++[s]).length=g.waiting.length+1 by simp] at hown11 hat11;have hl10:∀ b,F b→b<(w10.setCell ⟨G,4,none⟩ (.slice VB (g.forests.length+1) vb)).heap.size:=(fun b hb=>Nat.lt_of_lt_of_le (HS2.out.low b hb) HS9.out.size);have hW11:=cC0 (i:=2) HM9.out E82.out ((Below.refl _ _).alloc zn _) hg11 AO;obtain⟨hm11,hs11,hbb11⟩:=HM9.out.grown2 hl10 E82.out ((Below.refl _ _).alloc zn _) hown11 hg11 hat11;have HM11:=zh hm11;have HS11:=zh (HS9.out.trans hs11);have HB11:=zh (HB9.out.trans hbb11);have e22:=(hW11.2 22).1.trans HM9.out.cells.wai;have y22:=(hW11.2 22).2;clear hW11 hm11 hs11 hbb11 hown11 hb11 hg11 hat11 ho9 hl10))
        refine bodyPost_end (v:=.tuple #[]) (by simp[results,Tryz.results177,go_sem]) rfl ?_
        have hq:({ ({ gq with commits:=g.commits++[((g.commits.length:Int)+1,t.writes)] }:Eng) with waiting:=g.waiting++[s] }:Eng)=bE1 g s t nt:=by
         rw[Hgq.out,← Hnx.out]
         exact cX0 t nt (by rw[H.out.inv.sess];exact hs)
        have hf:(bE1 g s t nt).forests=g.forests++[nf]:=by
         show (List.range ((g.commits++[g.next t]).length+1)).map (aS (g.commits++[g.next t]))=_
         rw[cI6]
         show _++[(aC4 (aS g.commits g.commits.length) t.writes).1]=_
         rw[Hap.out]
         rfl
        have hE:=HM11.out
        rw[hq,← hf] at hE
        have hs11:=HS11.out
        rw[Hv3.out]
        exact aO.then HD.out ⟨rfl,⟨⟨_,hE⟩,HS2.out.env.same hs11,by rw[← Hv3.out];exact H.out.inv.commit hs t,fun b hb=>Nat.lt_of_lt_of_le (HS2.out.low b hb) hs11.size⟩,hs11,HB11.out⟩
      ·have b3:(pe != 0)=true:=by simpa using hpe
       have Hv3:=zh (show aG2 g s t=(g.txn s none).say (aE4 s pe) from Hv2.out.trans (if_pos hpe))
       clear hpe
       go_wp2_with (go_at_call 117;(with_reducible refine (aF2 (Fx F w2 WF) _ G (g.txn s none) n s pe (HS2.out.below HwF.out) AO).mono ?_);rintro e4 w4 hp5;obtain⟨rfl,hp5⟩:=hp5)
       refine bodyPost_end (v:=.tuple #[]) (by simp[results,Tryz.results177,go_sem]) rfl ?_
       rw[Hv3.out]
       exact aO.then HD.out (aO.from HS2.out HwF.out ⟨rfl,hp5⟩)
    ·have b2:(ae != 0)=true:=by simpa using hae
     have Hv2:=zh (show aG2 g s t=(g.txn s none).say (aE4 s ae) from Hv1.out.trans (if_pos hae))
     clear hae
     go_wp2_with (go_at_call 117;(with_reducible refine (aF2 (Fx F w2 w5) _ G (g.txn s none) n s ae (HS2.out.below Hw5.out) AO).mono ?_);rintro e4 w4 hp5;obtain⟨rfl,hp5⟩:=hp5)
     refine bodyPost_end (v:=.tuple #[]) (by simp[results,Tryz.results177,go_sem]) rfl ?_
     rw[Hv2.out]
     exact aO.then HD.out (aO.from HS2.out Hw5.out ⟨rfl,hp5⟩)
end Go.Proofs.YtablgnacmpcfeaaGreatDoor
