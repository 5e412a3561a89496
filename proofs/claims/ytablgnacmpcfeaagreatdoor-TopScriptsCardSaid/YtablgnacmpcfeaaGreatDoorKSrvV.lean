/- SrvV: Walks: work put together; ask; do. What is told in replies: the keys of pairs are never empty. Plain words, no program. What replies point to lies not in an outcome's box that is laid and not yet filled. No condition. Walk: server.Run. The conditions of each are in its words. -/
import Derived.Test.YtablgnacmpcfeaaGreatDoorKSrvU
import Derived.Test.YtablgnacmpcfeaaGreatDoorKSrvJ
import Derived.Test.YtablgnacmpcfeaaGreatDoorKSrvT
import Derived.Test.YtablgnacmpcfeaaGreatDoorKSrvP
import Derived.Test.YtablgnacmpcfeaaGreatDoorKActK
import Derived.Test.YtablgnacmpcfeaaGreatDoorKTapeR
namespace Go.Proofs.YtablgnacmpcfeaaGreatDoor
open Go.RowKit
set_option linter.unusedVariables false
set_option linter.unusedSimpArgs false
set_option maxRecDepth 100000
set_option maxHeartbeats 8000000
theorem cI8 (F:Nat→Prop) (w:World) (G:Nat) (g:Eng) (n:Nat) (s:Nat) (t:Tx) (r:Rq) (cs:List Value) (h:Srv F w G g n) (hs:s<8) (ht:(g.at s).txn=some t) (hr:RqR F w cs r) (hn:n<100000) (h6:r.kind=6) :
  Calls Tryz.prog 121 #[.pointer (some ⟨G,0,none⟩),.int .i64 (s:Int),.pointer (some ⟨G,6+s*2,none⟩),.agg cs.toArray] w (aO F w G (aG8 g s t r) (n+1) (.tuple #[])):=by
 have hr0:=hr
 obtain⟨m,hm⟩:=h.eng
 obtain⟨A,a,B,b,C,c,D,d,rfl,r1,r2,r3,r4,l1,l2,l3,l4⟩:=hr
 obtain⟨tb,X,xn,Y,yn,k0,hfb,hbx,hxn,hyn,hX,hY⟩:=hm.txn_at hs ht
 obtain⟨hst0,hst1,hsk⟩:=bG6 h.inv ht
 obtain⟨gf,fcap,FA,fc,hv1,hcf,hlf,hTs,hgf⟩:=hm.forest_at (k:=t.start.toNat) hsk
 have hc4:w.cell? ⟨G,4,none⟩=some (.slice (some ⟨gf,0,none⟩) (g.commits.length+1) fcap):=by rw[hm.cell,hm.cells.fo,hv1]
 have hG:=hm.lt
 have htb:=(Array.getElem?_eq_some_iff.1 hbx).1
 obtain⟨b0,b1,b2⟩:=bK2 hbx
 have hi0:(0:Int)≤t.start:=hst0
 have hi1:t.start<((g.commits.length+1:Nat):Int):=by omega
 have H:=zh h
 have Hm:=zh hm
 have R1:=zh r1.bz
 have R2:=zh r2.bz
 have R3:=zh r3.bz
 have R4:=zh r4.bz
 have HX:=zh (hX.z wrR_stays)
 have HY:=zh (hY.z wrR_stays)
 have HTs:=zh hTs
 have Hr:=zh hr0
 have Ht:=zh ht
 have Hst:=zh (And.intro hst0 (And.intro hst1 hsk))
 clear hr0 h hm r1 r2 r3 r4 hX hY hTs ht hbx hfb hv1 hst0 hst1 hsk
 have Hv:=zh (show aG8 g s t r=aG2 g s t by unfold aG8;rw[if_neg AO,if_neg AO,if_pos h6])
 have k2:(r.kind==2)=false:=by simp;omega
 have k3:(r.kind==3)=false:=by simp;omega
 have k6:(r.kind==6)=true:=by simpa using h6
 clear h6
 go_enter Tryz.func121,Tryz.ntmps121
 go_wp2
 go_quiet (fail)
 go_wp2_with (go_at_call 177;(with_reducible refine (cC1 _ _ G g n s t (H.out.below (below_drewN ((Below.refl _ _).alloc zn _) _)) hs Ht.out hn).mono ?_);rintro e4 w4 hp5;obtain⟨rfl,hp5⟩:=hp5)
 refine bodyPost_end (v:=.tuple #[]) (by simp[results,Tryz.results121,go_sem]) rfl ?_
 rw[Hv.out]
 refine aO.from H.out ?_ ⟨rfl,hp5⟩
 exact below_drewN ((Below.refl _ _).alloc zn _) _
theorem srvWork_said:WorkSaid:=by
 intro F w G g n s t r cs h hs ht hr hn
 by_cases h2:r.kind=2
 ·exact cW2 F w G g n s t r cs h hs ht hr hn h2
 ·by_cases h3:r.kind=3
  ·exact cO6 F w G g n s t r cs h hs ht hr hn h2 h3
  ·by_cases h6:r.kind=6
   ·exact cI8 F w G g n s t r cs h hs ht hr hn h6
   ·exact cI0 F w G g n s t r cs h hs ht hr hn h2 h3 h6
theorem cX1 (F:Nat→Prop) (w:World) (G:Nat) (g:Eng) (n:Nat) (s:Nat) (A:Option Addr) (d:List UInt8) (c:Nat) (h:Srv F w G g n) (hs:s<8) (hd:Bs F w A d) (hc:d.length≤c) (hn:n<100000) :
  Calls Tryz.prog 72 #[.pointer (some ⟨G,0,none⟩),.int .i64 (s:Int),.slice A d.length c] w (aO F w G (aS0 g s d) (n+1) (.tuple #[])) :=
 cW8 srvWork_said F w G g n s A d c h hs hd hc hn
theorem aO.mono {F:Nat→Prop} {w w':World} {G n n':Nat} {g:Eng} {v:Value} {e:Ending} (h:aO F w G g n v e w') (hn:n≤n'):aO F w G g n' v e w':=⟨h.1,h.2.1.mono hn,h.2.2.1,h.2.2.2⟩
theorem aO.alloc {F:Nat→Prop} {w w':World} {G n:Nat} {g:Eng} {v:Value} {e:Ending} (h:aO F w G g n v e w') (o:Obj):aO F w G g n v e (w'.alloc o):=by
 obtain⟨h1,h2,h3,h4⟩:=h
 have hb:Below w'.heap.size w' (w'.alloc o):=(Below.refl _ _).alloc zn _
 exact⟨h1,(h2.below hb).less (h2.env.same (aC.of_below hb)) fun b hb=>.inl hb,h3.alloc o,h4.alloc (Nat.zero_le _) o⟩
theorem bs_upx {F:Nat→Prop} {w w':World} {A:Option Addr} {d:List UInt8} (h:Bs F w A d) (hb:Below w.heap.size w w'):Bs (Fx F w w') w' A d:=(h.bbelow hb).bless fun _ _ h=>.inl h
theorem up_end {F:Nat→Prop} {w WF:World} {G n:Nat} {g:Eng} (H:Srv F w G g n) (hwF:Below w.heap.size w WF) (v:Value):aO F w G { g with up:=true } n v (.returned v) (WF.setCell ⟨G,0,none⟩ (.bool true)):=by
 obtain⟨m,Hm⟩:=H.eng
 have h1:=(Hm.below (F':=F) hwF fun b hb=>.inl hb).setUp true
 have h2:aC F w (WF.setCell ⟨G,0,none⟩ (.bool true)):=(aC.of_below hwF).setCell (p:=⟨G,0,none⟩) (fun hF=>(Hm.fixF G hF).1 rfl) _
 exact⟨rfl,⟨⟨_,h1⟩,H.env.same h2,{ H.inv with },fun b hb=>Nat.lt_of_lt_of_le (H.low b hb) h2.size⟩,h2,(aU0 hwF).setCell (p:=⟨G,0,none⟩) (Nat.zero_le _) _⟩
theorem srvDo_ok (F:Nat→Prop) (w:World) (G:Nat) (g:Eng) (n:Nat) (a:Ac) (A:Option Addr) (c:Nat) (h:Srv F w G g n) (ha:aB6 a=0) (hd:Bs F w A a.data) (hc:a.data.length≤c) (hn:n<100000) :
  Calls Tryz.prog 36 #[.pointer (some ⟨G,0,none⟩),.agg #[.int .i64 a.kind,.int .i64 a.session,.int .i64 a.keep,.slice A a.data.length c]] w (aO F w G (doE g a) (n+1) (.tuple #[])):=by
 obtain⟨p1,p2,p3,p4,p5⟩:=aT9 ha
 obtain⟨m,hm⟩:=h.eng
 have hG:=hm.lt
 have H:=zh h
 have Hd:=zh hd
 have hbA:Below w.heap.size w (w.alloc (.cells #[.int .i64 a.kind,.int .i64 a.session,.int .i64 a.keep,.slice A a.data.length c] 46)):=(Below.refl _ _).alloc zn _
 have HbA:=zh hbA
 have d0:=((hm.below (F':=F) hbA fun b hb=>.inl hb).cell 0).trans hm.cells.up
 have f0:=(hm.below (F':=F) hbA fun b hb=>.inl hb).frozen 0
 clear h hm hd hbA ha
 by_cases k1:a.kind=1
 ·obtain⟨q1,q2⟩:=p1 k1
  obtain⟨s,hs⟩:∃ s:Nat,a.session=(s:Int):=⟨a.session.toNat,AO⟩
  have hs8:s<8:=by omega
  have Hv:=zh (show doE g a=aS0 g s a.data by unfold doE;rw[if_pos k1,hs];rfl)
  rw[k1,hs] at HbA d0 f0 ⊢
  clear k1 hs p1 p2 p3 p4 p5 q1 q2
  go_enter Tryz.func36,Tryz.ntmps36
  go_wp2_with (go_at_call 72;(with_reducible refine (cX1 _ _ G g n s A a.data c (H.out.below HbA.out) hs8 (bs_upx Hd.out HbA.out) hc hn).mono ?_);rintro e4 w4 hp5;obtain⟨rfl,hp5⟩:=hp5)
  refine bodyPost_end (v:=.tuple #[]) (by simp[results,Tryz.results36,go_sem]) rfl ?_
  rw[Hv.out]
  exact aO.from H.out HbA.out ⟨rfl,hp5⟩
 ·by_cases k2:a.kind=2
  ·have Hv:=zh (show doE g a=aV2 g by unfold doE;rw[if_neg k1,if_pos k2])
   rw[k2] at HbA d0 f0 ⊢
   clear k1 k2 p1 p2 p3 p4 p5
   go_enter Tryz.func36,Tryz.ntmps36
   go_wp2_with (go_at_call 73;(with_reducible refine (cO7 _ _ G g n (H.out.below HbA.out) hn).mono ?_);rintro e4 w4 hp5;obtain⟨rfl,hp5⟩:=hp5)
   refine bodyPost_end (v:=.tuple #[]) (by simp[results,Tryz.results36,go_sem]) rfl ?_
   rw[Hv.out]
   exact (aO.from H.out HbA.out ⟨rfl,hp5⟩).mono (Nat.le_succ n)
  ·by_cases k3:a.kind=3
   ·have Hv:=zh (show doE g a=aS1 g a.keep by unfold doE;rw[if_neg k1,if_neg k2,if_pos k3])
    have hk0:=(p2 k3).1
    rw[k3] at HbA d0 f0 ⊢
    clear k1 k2 k3 p1 p2 p3 p4 p5
    go_enter Tryz.func36,Tryz.ntmps36
    go_wp2_with (go_at_call 74;(with_reducible refine (cI5 _ _ G g n a.keep (H.out.below HbA.out) hk0).mono ?_);rintro e4 w4 hp5;obtain⟨rfl,hp5⟩:=hp5)
    refine bodyPost_end (v:=.tuple #[]) (by simp[results,Tryz.results36,go_sem]) rfl ?_
    rw[Hv.out]
    exact (aO.from H.out HbA.out ⟨rfl,hp5⟩).mono (Nat.le_succ n)
   ·have k4:a.kind=4:=by omega
    have Hv:=zh (show doE g a={ g with up:=true } by unfold doE;rw[if_neg k1,if_neg k2,if_neg k3])
    rw[k4] at HbA d0 f0 ⊢
    clear k1 k2 k3 k4 p1 p2 p3 p4 p5
    go_enter Tryz.func36,Tryz.ntmps36
    go_wp2
    refine bodyPost_end (v:=.tuple #[]) (by simp[results,Tryz.results36,go_sem]) rfl ?_
    rw[Hv.out]
    exact ((up_end H.out (Below.refl _ _) (.tuple #[])).alloc _).mono (Nat.le_succ n)
def dC7 (l:List Pr):Prop:=∀ p ∈ l,1≤p.1.length
theorem keyOk_nil:dC7 []:=fun _ h=>by cases h
theorem dC8 {l:List Pr} (h:aG l=0):dC7 l:=fun p hp=>by
 have h1:=(aG5 h).2.1 p hp
 unfold aA5 at h1
 split at h1
 ·cases h1
 ·unfold aE at h1
  split at h1
  ·rename_i h2;exact h2.1
  ·cases h1
theorem dC9 (l:List Pr) (f t:List UInt8):dC7 (aM9 l f t).1:=by
 unfold aM9
 by_cases h:aI9 l f t=0
 ·rw[if_neg ZF9]
  have h1:aG l=0:=by
   unfold aI9 at h
   by_cases h1:aG l=0
   ·exact h1
   ·rw[if_pos h1] at h;exact absurd h h1
  exact fun p hp=>dC8 h1 p (List.mem_filter.1 hp).1
 ·rw[if_pos h];exact keyOk_nil
theorem dD0 {s:List Pr} {x:Wr} (h:(bH s x).2=0):dC7 (bH s x).1:=by
 unfold bH at h ⊢
 split at h
 ·rename_i hf;rw[if_pos hf];exact dC8 (bV4 h)
 ·rename_i hf;rw[if_neg hf];exact dC8 (bV3 h).1
theorem dD1 (n f m:List UInt8) {s:List Pr × Int} (x:Wr) (h:dC7 s.1):dC7 (aG4 n f m s x).1:=by
 unfold aG4
 split
 ·exact h
 ·split
  ·exact h
  ·split
   ·exact keyOk_nil
   ·rename_i h3;exact dD0 (by simpa using h3)
theorem dD2 (n f m:List UInt8):∀ (ws:List Wr) {s:List Pr × Int},dC7 s.1→dC7 (aI5 n f m s ws).1
 | [],_,h=>h
 | x :: ws,s,h=>dD2 n f m ws (s:=aG4 n f m s x) (dD1 n f m x h)
theorem dD3 (l:List Tn) (t:Tx) (n f m:List UInt8):dC7 (aU6 l t n f m).1:=by
 unfold aU6
 split
 ·exact keyOk_nil
 ·split
  ·exact keyOk_nil
  ·refine dD2 n f m t.writes ?_
   unfold aA8
   split
   ·exact keyOk_nil
   ·exact dC9 _ _ _
def dD4 (g:Eng):Prop:=∀ r ∈ g.replies,dC7 r.pairs
section
variable {g : Eng}
theorem dD4.say (h:dD4 g) {r:Rp} (hr:dC7 r.pairs):dD4 (g.say r):=fun x hx=>by
 rcases List.mem_append.1 hx with h1|h1
 ·exact h x h1
 ·rw[List.mem_singleton] at h1;rw[h1];exact hr
theorem dD4.note (h:dD4 g) (s:Nat) (t:Tx) (r:Rq):dD4 (aE8 g s t r).1:=by
 unfold aE8
 split
 ·exact h.say keyOk_nil
 ·exact h
theorem dD4.commit (h:dD4 g) (s:Nat) (t:Tx):dD4 (aG2 g s t):=by
 unfold aG2
 split
 ·exact dD4.say (g:=g.txn s none) h keyOk_nil
 ·split
  ·exact h.say keyOk_nil
  ·split
   ·exact dD4.say (g:=g.txn s none) h keyOk_nil
   ·split
    ·exact dD4.say (g:=g.txn s none) h keyOk_nil
    ·split
     ·exact dD4.say (g:=g.txn s none) h keyOk_nil
     ·exact h
theorem dD4.work (h:dD4 g) (s:Nat) (t:Tx) (r:Rq):dD4 (aG8 g s t r):=by
 unfold aG8
 split
 ·unfold getE
  split
  ·exact h.note s t r
  ·refine dD4.say ?_ keyOk_nil
   split
   ·exact h
   ·exact h.note s t r
 ·split
  ·unfold scanE
   split
   ·exact h.say keyOk_nil
   ·split
    ·exact h.note s t r
    ·exact (h.note s t r).say (dD3 _ _ _ _ _)
  ·split
   ·exact h.commit s t
   ·unfold cB4
    split
    ·exact dD4.say (g:=g.txn s _) h keyOk_nil
    ·exact h.say keyOk_nil
theorem dD4.ask (h:dD4 g) (s:Nat) (d:List UInt8):dD4 (aS0 g s d):=by
 unfold aS0
 split
 ·exact h.say keyOk_nil
 ·split
  ·exact h.say keyOk_nil
  ·unfold aH3
   split
   ·exact h.say keyOk_nil
   ·split
    ·exact h.say keyOk_nil
    ·split
     ·exact dD4.say (g:=g.txn s _) h keyOk_nil
     ·split
      ·exact dD4.say (g:=g.txn s _) h keyOk_nil
      ·split
       ·exact dD4.say (g:=g.txn s _) h keyOk_nil
       ·exact h.work _ _ _
theorem sync_keys:∀ (ws:List Nat) (g:Eng),dD4 g→dD4 (ws.foldl aC1 g)
 | [],_,h=>h
 | a :: ws,g,h=>sync_keys ws (aC1 g a) (dD4.say (g:={ g.put a ⟨(g.at a).txn,false⟩ with synced:=g.synced+1 }) h keyOk_nil)
theorem dD4.act (h:dD4 g) (a:Ac):dD4 (doE g a):=by
 unfold doE
 split
 ·exact h.ask _ _
 ·split
  ·unfold aV2
   split
   ·exact h
   ·exact sync_keys g.waiting { g with tape:=if aR5 g.tape then (g.tape.1,(g.tape.1.length:Int)) else ([],0) } h
  ·split
   ·unfold aS1
    split
    ·exact h
    ·exact h
   ·exact h
end
theorem acts_keys:∀ (l:List Ac) (g:Eng),dD4 g→dD4 (l.foldl doE g)
 | [],_,h=>h
 | a :: l,g,h=>acts_keys l (doE g a) (h.act a)
theorem dD5 (l:List Ac):∀ r ∈ (bM l).replies,dC7 r.pairs:=acts_keys l eng0 fun _ h=>by cases h
def oz:List Value:=[.bool false,.int .i64 0,.int .i64 0,.slice none 0 0,.slice none 0 0]
def dD6 (w:World) (b:Nat):Prop:=w.heap[b]?=some (.cells #[.bool false,.int .i64 0,.int .i64 0,.slice none 0 0,.slice none 0 0] 29 (0,0))
theorem dD6.cell {w:World} {b:Nat} (h:dD6 w b) (i:Nat):w.cell? ⟨b,i,none⟩=oz[i]?:=aA (cs:=oz) h i
section
variable {α : Type} {size : Nat} {R : (Nat → Prop) → World → List Value → α → Prop} {S : Nat → Prop} {w : World} {A : Option Addr} {l : List α} {b : Nat}
theorem dD7 (h:SL size R S w A l) (hb:dD6 w b) (hs:0<size) (hne:∀ cs x,x ∈ l→cs.length=size→R S w cs x→∀ off,(∀ j,j<size→oz[off+j]?=cs[j]?)→False) (hR:∀ cs x,x ∈ l→R S w cs x→R (fun k=>S k∧k≠b) w cs x):SL size R (fun k=>S k∧k≠b) w A l:=by
 intro hl
 obtain⟨g,off,hA,hS,hlt,hi⟩:=h hl
 refine⟨g,off,hA,⟨hS,fun e=>?_⟩,hlt,fun i hil=>?_⟩
 ·subst e
  obtain⟨cs,c1,c2,c3⟩:=hi 0 hl
  refine hne cs _ (List.getElem_mem hl) c1 c3 off fun j hj=>?_
  have:=c2 j hj
  rw[hb.cell] at this
  simpa using this
 ·obtain⟨cs,c1,c2,c3⟩:=hi i hil
  exact⟨cs,c1,c2,hR cs _ (List.getElem_mem hil) c3⟩
end
section
variable {S : Nat → Prop} {w : World} {b : Nat}
theorem dD8 {off:Nat} {v:Value} (h:oz[off]?=some v):(off=0∧v=.bool false)∨(off=1∧v=.int .i64 0)∨(off=2∧v=.int .i64 0)∨(off=3∧v=.slice none 0 0)∨(off=4∧v=.slice none 0 0):=by
 match off,h with
 | 0,h=>exact .inl ⟨rfl,(Option.some.inj h).symm⟩
 | 1,h=>exact .inr (.inl ⟨rfl,(Option.some.inj h).symm⟩)
 | 2,h=>exact .inr (.inr (.inl ⟨rfl,(Option.some.inj h).symm⟩))
 | 3,h=>exact .inr (.inr (.inr (.inl ⟨rfl,(Option.some.inj h).symm⟩)))
 | 4,h=>exact .inr (.inr (.inr (.inr ⟨rfl,(Option.some.inj h).symm⟩)))
 | n+5,h=>exact absurd h (by simp[oz])
theorem dD9 {A:Option Addr} {l:List UInt8} (h:Bs S w A l) (hb:dD6 w b):Bs (fun k=>S k∧k≠b) w A l :=
 dD7 h hb AO (fun cs x _ _ hx off hj=>by
  have hx':cs=[bv x]:=hx
  subst hx'
  have:=dD8 (hj 0 AO)
  simp[bv] at this) fun cs x _ hx=>hx
theorem ps_off {A:Option Addr} {l:List Pr} (h:Ps S w A l) (hb:dD6 w b) (hk:dC7 l):Ps (fun k=>S k∧k≠b) w A l :=
 dD7 h hb AO (fun cs x hx0 _ hx off hj=>by
  obtain⟨K,c,V,d,rfl,_⟩:=hx
  have h1:=hk x hx0
  rcases dD8 (hj 0 AO) with ⟨_,e⟩|⟨_,e⟩|⟨_,e⟩|⟨_,e⟩|⟨_,e⟩
  ·cases e
  ·cases e
  ·cases e
  ·injection e with _ e2 _;omega
  ·injection e with _ e2 _;omega) fun cs x _ hx=>by
  obtain⟨K,c,V,d,h0,h1,h2,h3⟩:=hx
  exact⟨K,c,V,d,h0,dD9 h1 hb,dD9 h2 hb,h3⟩
theorem dE0 {A:Option Addr} {l:List St} (h:Sts S w A l) (hb:dD6 w b):Sts (fun k=>S k∧k≠b) w A l :=
 dD7 h hb AO (fun cs x _ _ hx off hj=>by
  obtain⟨B,c,rfl,_⟩:=hx
  have e0:=dD8 (hj 0 AO)
  have e1:=dD8 (hj 1 AO)
  simp at e0 e1
  try omega) fun cs x _ hx=>by
  obtain⟨B,c,h0,h1,h2⟩:=hx
  exact⟨B,c,h0,dD9 h1 hb,h2⟩
theorem rp_off {cs:List Value} {r:Rp} (h:RpR S w cs r) (hb:dD6 w b) (hk:dC7 r.pairs):RpR (fun k=>S k∧k≠b) w cs r:=by
 obtain⟨V,v,P,p,R,q,A,n,K,a,X,y,A',n',K',a',X',b',h0,h1,h2,h3,⟨h4,h5,h6⟩,h7,h8,h9⟩:=h
 exact⟨V,v,P,p,R,q,A,n,K,a,X,y,A',n',K',a',X',b',h0,dD9 h1 hb,ps_off h2 hb hk,dD9 h3 hb,⟨dE0 h4 hb,dD9 h5 hb,dD9 h6 hb⟩,dE0 h7 hb,dD9 h8 hb,dD9 h9 hb⟩
theorem dE1 {A:Option Addr} {l:List Rp} (h:SL 15 RpR S w A l) (hb:dD6 w b) (hk:∀ r ∈ l,dC7 r.pairs):SL 15 RpR (fun k=>S k∧k≠b) w A l :=
 dD7 h hb AO (fun cs x _ _ hx off hj=>by
  obtain⟨V,v,P,p,R,q,A,n,K,a,X,y,A',n',K',a',X',b',rfl,_⟩:=hx
  have e0:=dD8 (hj 0 AO)
  have e2:=dD8 (hj 2 AO)
  simp at e0 e2
  omega) fun cs x hx0 hx=>rp_off hx hb (hk x hx0)
end
def AcR (S:Nat→Prop) (w:World) (cs:List Value) (a:Ac):Prop :=
 ∃ A c,cs=[.int .i64 a.kind,.int .i64 a.session,.int .i64 a.keep,.slice A a.data.length c]∧a.data.length≤c∧Bs S w A a.data
theorem acR_stays:bI AcR :=
 ⟨fun _ _ _ _ _ hb ⟨A,c,h0,h1,h2⟩=>⟨A,c,h0,h1,h2.bsame hb⟩,fun _ _ _ _ _ hb ⟨A,c,h0,h1,h2⟩=>⟨A,c,h0,h1,h2.bless hb⟩⟩
abbrev Acs (S:Nat→Prop) (w:World) (A:Option Addr) (l:List Ac):Prop:=SL 4 AcR S w A l
theorem cO9 {S:Nat→Prop} {w:World} {A:Option Addr} {l:List Ac} (h:Acs S w A l) {k:Nat} (hk:k<l.length) :
  ∃ b off D d,A=some ⟨b,off,none⟩∧b<w.heap.size∧w.cell? ⟨b,off+k*4,none⟩=some (.int .i64 l[k].kind)∧w.cell? ⟨b,off+k*4+1,none⟩=some (.int .i64 l[k].session)∧w.cell? ⟨b,off+k*4+2,none⟩=some (.int .i64 l[k].keep)∧w.cell? ⟨b,off+k*4+3,none⟩=some (.slice D l[k].data.length d)∧l[k].data.length≤d∧Bs S w D l[k].data:=by
 obtain⟨b,off,cs,hA,hb,hlt,hlen,hc,D,d,rfl,h1,h2⟩:=h.at hk
 refine⟨b,off,D,d,hA,hlt,?_,?_,?_,?_,h1,h2⟩
 ·exact hc 0 AO
 ·exact hc 1 AO
 ·exact hc 2 AO
 ·exact hc 3 AO
theorem cC2 {l:List Tn} (h:aN0 l):aC4 l []=(l,0):=by
 unfold aC4
 have h':aL l=0:=h
 rw[if_neg (by simpa using h'),if_neg ZH2]
 rfl
def RpB (_:Nat→Prop) (_:World) (cs:List Value) (r:Rp):Prop :=
 ∃ c4 c5 c6 c7 c8 c9 c10 c11 c12 c13 c14,cs=[.int .i64 r.session,.int .i64 r.code,.int .i64 r.turn,.bool r.found,c4,c5,c6,c7,c8,c9,c10,c11,c12,c13,c14]
theorem rpB_stays:bI RpB:=⟨fun _ _ _ _ _ _ h=>h,fun _ _ _ _ _ _ h=>h⟩
theorem rep_sl {S:Nat→Prop} {w w':World} {e:TypeId} {A:Option Addr} {n c:Nat} {l:List Rp} (h:Own 15 RpR S w 0 e (.slice A n c) l) {T:Nat→Prop} (hb:∀ b,(Value.slice A n c).ownBlock=some b→T b∧w'.heap[b]?=w.heap[b]?):SL 15 RpB T w' A l:=by
 obtain⟨xs,h1,h2⟩:=h
 have h':Own 15 RpB All w' 0 e (.slice A n c) l:=by
  refine⟨xs,⟨h1.1,?_⟩,fun i hi=>?_⟩
  ·rcases h1.2 with hn|⟨g,cap,cur,hv,hge,hh,rest⟩
   ·exact .inl hn
   ·exact .inr ⟨g,cap,cur,hv,hge,by rw[(hb g (by rw[hv];rfl)).2];exact hh,rest⟩
  ·obtain⟨V,v,P,p,R,q,A,n,K,a,X,b,A',n',K',a',X',b',h0,_⟩:=h2 i hi
   exact⟨_,_,_,_,_,_,_,_,_,_,_,h0⟩
 have h3:=h'.sl0 rpB_stays
 intro hl
 obtain⟨b,off,hA,_,hlt,hi⟩:=h3 hl
 exact⟨b,off,hA,(hb b (by rw[hA];rfl)).1,hlt,fun i h=>by obtain⟨cs,k1,k2,k3⟩:=hi i h;exact⟨cs,k1,k2,k3⟩⟩
theorem cP0 (w:World) (A:Option Addr) (l:List Tn) (c:Nat) (ha:Ts All w A l) (hl:aN0 l):Calls Tryz.prog 30 #[.slice A l.length c,.slice none 0 0] w (RetTE w (l,0)):=by
 have h:=aJ0 w A l c none [] 0 ha SL.nil
 rw[cC2 hl] at h
 exact h
def RetRun (w:World) (r:Oc × Int) (e:Ending) (w':World):Prop :=
 ∃ A a B b,e=.returned (.tuple #[.agg #[.bool r.1.up,.int .i64 r.1.turn,.int .i64 r.1.pending,.slice A r.1.forest.length a,.slice B r.1.replies.length b],.int .i64 r.2])∧Ts (aB w.heap.size) w' A r.1.forest∧SL 15 RpB (aB w.heap.size) w' B r.1.replies∧SL 15 RpR All w' B r.1.replies∧Below w.heap.size w w'
theorem cP1 {l:List Ac} {k:Nat} (hk:k<l.length):firstFault (l.drop k)=if aB6 l[k]≠0 then aB6 l[k] else firstFault (l.drop (k+1)):=by
 rw[List.drop_eq_getElem_cons hk]
 rfl
theorem cS5 {w:World} (hT:bD w) (hH:bL w):EnvF (fun b=>b<w.heap.size) w :=
 ⟨hT,hH,World.block_lt_of_cell? w _ (hT.rounds 0 AO),World.block_lt_of_cell? w _ (hT.goes 0 _ rfl),World.block_lt_of_cell? w _ (hT.turns 0 AO),World.block_lt_of_cell? w _ (hH 0 AO)⟩
def mem0 (R:Nat):Mem :=
 {cs:=#[.bool true,.slice none 0 0,.int .i64 0,.slice none 0 0,.slice (some ⟨R,0,none⟩) 1 1,.int .i64 0,.pointer none,.bool false,.pointer none,.bool false,.pointer none,.bool false,.pointer none,.bool false,.pointer none,.bool false,.pointer none,.bool false,.pointer none,.bool false,.pointer none,.bool false,.slice none 0 0,.slice none 0 0],A:=none,c:=0,v:=fun i=>if i=1 then .slice (some ⟨R,0,none⟩) 1 1 else .slice none 0 0,px:=fun _=>none }
theorem eng_new (w:World):aX (fun b=>b<w.heap.size) ((w.alloc (.cells #[.slice none 0 0] 26)).alloc (.cells (mem0 w.heap.size).cs 115)) (w.heap.size+1) eng0 eng0.forests (mem0 w.heap.size):=by
 obtain⟨t1,t2,t3,t4⟩:=aM6 w (.cells #[.slice none 0 0] 26) (.cells (mem0 w.heap.size).cs 115)
 have hown:∀ i b,((mem0 w.heap.size).v i).ownBlock=some b→i=1∧b=w.heap.size:=fun i b h=>by
  have h':(if i=1 then Value.slice (some ⟨w.heap.size,0,none⟩) 1 1 else .slice none 0 0).ownBlock=some b:=h
  by_cases e:i=1
  ·rw[if_pos e] at h'
   exact⟨e,by injection h' with h';exact h'.symm⟩
  ·rw[if_neg e] at h'
   cases h'
 have hlow:∀ b,b<w.heap.size→(mem0 w.heap.size).fix (w.heap.size+1) b:=fun b hb=>⟨AO,fun i _ e=>by have:=hown i b e;omega⟩
 exact
  {blk:=t2
   cells :=
    {size:=rfl,up:=rfl,data:=rfl,safe:=rfl,com:=rfl,fo:=rfl,syn:=rfl
     px:=fun s hs=>by
      have:s=0∨s=1∨s=2∨s=3∨s=4∨s=5∨s=6∨s=7:=by omega
      rcases this with rfl|rfl|rfl|rfl|rfl|rfl|rfl|rfl <;> rfl
     wt:=fun s hs=>by
      have:s=0∨s=1∨s=2∨s=3∨s=4∨s=5∨s=6∨s=7:=by omega
      rcases this with rfl|rfl|rfl|rfl|rfl|rfl|rfl|rfl <;> rfl
     wai:=rfl,rep:=rfl }
   rows :=
    {dat:=SL.nil,cap:=zn,com:=Own.nil _ _ _
     fo:=⟨[.slice none 0 0],⟨rfl,.inr ⟨w.heap.size,1,#[.slice none 0 0],rfl,Nat.zero_le _,t1,zn,by decide,rfl,rfl⟩⟩,fun i hi=>by
      have hi':i<1:=hi
      obtain rfl:i=0:=by omega
      exact⟨none,0,rfl,zn,SL.nil⟩⟩
     wai:=Own.nil _ _ _,rep:=Own.nil _ _ _
     txs:=fun s _=>by
      have:(eng0.at s)=ss0:=cO1 s
      show bL1 _ _ none (eng0.at s).txn
      rw[this]
      rfl
     apart:=⟨fun i _ e=>by have:=hown i _ e;omega,fun i j _ _ hij b hi hj=>by have h1:=hown i b hi;have h2:=hown j b hj;omega⟩ }
   fixF:=hlow }
theorem srv_new {w:World} (he:EnvF (fun b=>b<w.heap.size) w):Srv (fun b=>b<w.heap.size) ((w.alloc (.cells #[.slice none 0 0] 26)).alloc (.cells (mem0 w.heap.size).cs 115)) (w.heap.size+1) eng0 0 :=
 ⟨⟨_,eng_new w⟩,he.same (aC.of_below (aM6 w _ _).2.2.2),inv_zero,fun b hb=>Nat.lt_of_lt_of_le hb (aM6 w _ _).2.2.2.size⟩
theorem bG7 (w:World) (hT:bD w) (hH:bL w) (A:Option Addr) (l:List Ac) (c:Nat) (ha:Acs All w A l) (hc:l.length≤big) :
  Calls Tryz.prog 15 #[.slice A l.length c] w (RetRun w (bS2 l)):=by
 unfold big at hc
 have He:=zh (cS5 hT hH)
 have Ha:=zh ha
 clear hT hH ha
 by_cases hbig:100000<l.length
 ·have Hv:=zh (show bS2 l=(oc0,1) by unfold bS2;rw[if_pos hbig])
  have hbi:(100000:Int)<(l.length:Int):=by omega
  have o0:=aA (cs:=[.bool false,.int .i64 0,.int .i64 0,.slice none 0 0,.slice none 0 0]) (aK w #[.bool false,.int .i64 0,.int .i64 0,.slice none 0 0,.slice none 0 0] 29) 0
  have o1:=aA (cs:=[.bool false,.int .i64 0,.int .i64 0,.slice none 0 0,.slice none 0 0]) (aK w #[.bool false,.int .i64 0,.int .i64 0,.slice none 0 0,.slice none 0 0] 29) 1
  have o2:=aA (cs:=[.bool false,.int .i64 0,.int .i64 0,.slice none 0 0,.slice none 0 0]) (aK w #[.bool false,.int .i64 0,.int .i64 0,.slice none 0 0,.slice none 0 0] 29) 2
  have o3:=aA (cs:=[.bool false,.int .i64 0,.int .i64 0,.slice none 0 0,.slice none 0 0]) (aK w #[.bool false,.int .i64 0,.int .i64 0,.slice none 0 0,.slice none 0 0] 29) 3
  have o4:=aA (cs:=[.bool false,.int .i64 0,.int .i64 0,.slice none 0 0,.slice none 0 0]) (aK w #[.bool false,.int .i64 0,.int .i64 0,.slice none 0 0,.slice none 0 0] 29) 4
  simp only[List.getElem?_cons_zero,List.getElem?_cons_succ] at o0 o1 o2 o3 o4
  clear hbig
  go_enter Tryz.func15,Tryz.ntmps15
  go_wp2
  refine bodyPost_ret (v:=.tuple #[.agg #[.bool false,.int .i64 0,.int .i64 0,.slice none 0 0,.slice none 0 0],.int .i64 1]) (by simp[results,Tryz.results15,go_sem,o0,o1,o2,o3,o4]) rfl ?_
  rw[Hv.out]
  exact⟨none,0,none,0,rfl,SL.nil,SL.nil,SL.nil,(Below.refl _ _).alloc zn _⟩
 ·have Hv:=zh (show bS2 l=if firstFault l≠0 then (oc0,firstFault l) else ((bM l).out,0) by unfold bS2;rw[if_neg hbig])
  have hl5:l.length≤100000:=by omega
  clear hbig
  go_enter Tryz.func15,Tryz.ntmps15
  go_wp2
  go_loopw [18] (fun i wr=>∃ k:Nat,k≤l.length∧i=.int .i64 k∧firstFault (l.drop k)=firstFault l∧wr.heap[w.heap.size]?=some (.cells #[.bool false,.int .i64 0,.int .i64 0,.slice none 0 0,.slice none 0 0] 29 (0,0))∧Below w.heap.size w wr) (fun i _=>l.length - (intOf i).toNat)
  case atStart=>exact⟨0,AO,rfl,rfl,aK w _ _,(Below.refl _ _).alloc zn _⟩
  case round =>
   obtain⟨k,hk,rfl,hff,hbx,hbr⟩:=hrel
   have Hff:=zh hff
   have Hbx:=zh hbx
   have Hbr:=zh hbr
   have hRl:w.heap.size<wr.heap.size:=(Array.getElem?_eq_some_iff.1 hbx).1
   clear hff hbx hbr
   by_cases hlt:k<l.length
   ·obtain⟨b,off,D,d,rfl,hab,a0,a1,a2,a3,hdd,hDs⟩:=cO9 (Ha.out.below acR_stays Hbr.out) hlt
    have Hnx:=zh (cP1 hlt)
    have hi0:(0:Int)≤(k:Int):=by omega
    have hi1:(k:Int)<(l.length:Int):=by omega
    have hll:l.length≤100000:=hl5
    generalize l[k]=x at *
    by_cases hf:aB6 x=0
    ·have b1:(aB6 x != 0)=false:=by simp[hf]
     go_wp2_with (go_at_call 35;(with_reducible refine (bC4 _ x.kind x.session x.keep D x.data.length d).mono ?_);rintro e1 w1 ⟨rfl,hb1⟩;have hW1:Below w.heap.size w w1:=(Hbr.out.alloc Hbr.out.size _).next hb1 (by have:=Hbr.out.size;simp;omega);have hB1:=(hb1.block w.heap.size ZC8).trans ((((Below.refl wr.heap.size wr).alloc zn (.cells #[.int .i64 x.kind,.int .i64 x.session,.int .i64 x.keep,.slice D x.data.length d] 46)).block w.heap.size hRl).trans Hbx.out);have o0:=aA hB1 0;have f0:=aD hB1 0;have o1:=aA hB1 1;have f1:=aD hB1 1;have o2:=aA hB1 2;have f2:=aD hB1 2;have o3:=aA hB1 3;have f3:=aD hB1 3;have o4:=aA hB1 4;have f4:=aD hB1 4;simp only[List.getElem?_cons_zero,List.getElem?_cons_succ] at o0 o1 o2 o3 o4;have HW1:=zh hW1;have HB1:=zh hB1;clear hW1 hB1 hb1;rw[show aB1 x.kind x.session x.keep x.data.length=aB6 x from rfl])
     go_roundw
     case rel=>exact⟨k+1,AO,by go_num,by rw[← Hff.out,Hnx.out,if_neg (by simpa using hf)],HB1.out,HW1.out⟩
     case measure=>simp[intOf];omega
    ·have b1:(aB6 x != 0)=true:=by simpa using hf
     have Hv1:=zh (show bS2 l=(oc0,aB6 x) by
      have h1:firstFault l=aB6 x:=by rw[← Hff.out,Hnx.out,if_pos hf]
      rw[Hv.out,h1,if_pos hf])
     go_wp2_with (go_at_call 35;(with_reducible refine (bC4 _ x.kind x.session x.keep D x.data.length d).mono ?_);rintro e1 w1 ⟨rfl,hb1⟩;have hW1:Below w.heap.size w w1:=(Hbr.out.alloc Hbr.out.size _).next hb1 (by have:=Hbr.out.size;simp;omega);have hB1:=(hb1.block w.heap.size ZC8).trans ((((Below.refl wr.heap.size wr).alloc zn (.cells #[.int .i64 x.kind,.int .i64 x.session,.int .i64 x.keep,.slice D x.data.length d] 46)).block w.heap.size hRl).trans Hbx.out);have o0:=aA hB1 0;have f0:=aD hB1 0;have o1:=aA hB1 1;have f1:=aD hB1 1;have o2:=aA hB1 2;have f2:=aD hB1 2;have o3:=aA hB1 3;have f3:=aD hB1 3;have o4:=aA hB1 4;have f4:=aD hB1 4;simp only[List.getElem?_cons_zero,List.getElem?_cons_succ] at o0 o1 o2 o3 o4;have HW1:=zh hW1;have HB1:=zh hB1;clear hW1 hB1 hb1;rw[show aB1 x.kind x.session x.keep x.data.length=aB6 x from rfl])
     refine bodyPost_ret (v:=.tuple #[.agg #[.bool false,.int .i64 0,.int .i64 0,.slice none 0 0,.slice none 0 0],.int .i64 (aB6 x)]) (by simp[results,Tryz.results15,go_sem,o0,o1,o2,o3,o4]) rfl ?_
     rw[Hv1.out]
     exact⟨none,0,none,0,rfl,SL.nil,SL.nil,SL.nil,(by have hw9:=HW1.out;exact BX)⟩
   ·obtain rfl:k=l.length:=by omega
    obtain⟨w5,rfl⟩:∃ w5,w5=wr:=⟨wr,rfl⟩
    have hff0:firstFault l=0:=by rw[← Hff.out,List.drop_length];rfl
    have Hall:=zh (bL0 hff0)
    have Hv1:=zh (show bS2 l=((bM l).out,0) by rw[Hv.out,hff0];rfl)
    have hmk:∀ w:World,(Instr.makeSlice 36 (.int .i64 1) (.int .i64 1)).run Tryz.prog w=.ok (.slice (some ⟨w.heap.size,0,none⟩) 1 1) (w.alloc (.cells #[.slice none 0 0] 26)):=fun w=>by
     have hmc:madeCells #[Value.slice none 0 0] 1=#[Value.slice none 0 0]:=by simp[madeCells];exact⟨0,rfl,rfl⟩
     rw[← hmc]
     exact run_make_row' (P:=Tryz.prog) 36 26 (.slice none 0 0) 24 Tryz.underlying36 info_foT rfl .i64 .i64 1 ZD9 ZD9 w
    have hE:=cS5 (He.out.tabs.below Hbr.out) (He.out.has.below Hbr.out)
    have HS0:=zh (srv_new hE)
    have Hs0:=zh (show aC (fun b=>b<w5.heap.size) w5 ((w5.alloc (.cells #[.slice none 0 0] 26)).alloc (.cells (mem0 w5.heap.size).cs 115)) from ((aC.refl _ _).alloc _).alloc _)
    have Hb0:=zh (show Below 0 w5 ((w5.alloc (.cells #[.slice none 0 0] 26)).alloc (.cells (mem0 w5.heap.size).cs 115)) from ((Below.refl _ _).alloc (Nat.zero_le _) _).alloc (Nat.zero_le _) _)
    have HaF:=zh (show Acs (fun b=>b<w5.heap.size) w5 A l from (Ha.out.below acR_stays Hbr.out).less acR_stays fun b hb _=>hb)
    clear hff0 hE hlt hk
    go_wp2
    go_loopw [34] (fun i wl=>∃ k:Nat,k≤l.length∧i=.int .i64 k∧Srv (fun b=>b<w5.heap.size) wl (w5.heap.size+1) ((l.take k).foldl doE eng0) k∧aC (fun b=>b<w5.heap.size) w5 wl∧Below 0 w5 wl) (fun i _=>l.length - (intOf i).toNat)
    case atStart=>exact⟨0,AO,rfl,HS0.out,Hs0.out,Hb0.out⟩
    case round =>
     obtain⟨k,hk,rfl,hsv,hss,hbb⟩:=hrel
     have Hsv:=zh hsv
     have Hss:=zh hss
     have Hbb:=zh hbb
     clear hsv hss hbb hmk
     by_cases hlt:k<l.length
     ·obtain⟨b,off,D,d,rfl,hab,a0,a1,a2,a3,hdd,hDs⟩:=cO9 (HaF.out.same acR_stays Hss.out) hlt
      have Hst:=zh (show (l.take (k+1)).foldl doE eng0=doE ((l.take k).foldl doE eng0) l[k] by rw[aC8 l k hlt,List.foldl_append];rfl)
      have hx0:=Hall.out l[k] (List.getElem_mem hlt)
      have hi0:(0:Int)≤(k:Int):=by omega
      have hi1:(k:Int)<(l.length:Int):=by omega
      have HDs:=zh hDs
      clear hDs
      generalize l[k]=x at *
      generalize (l.take k).foldl doE eng0=g at *
      have hk1:k<100000:=by omega
      go_wp2_with (go_at_call 36;(with_reducible refine (srvDo_ok _ _ (w5.heap.size+1) g k x D d (Hsv.out.below ((Below.refl _ _).alloc zn _)) hx0 (bs_upx HDs.out ((Below.refl _ _).alloc zn _)) hdd hk1).mono ?_);rintro e4 w4 hp5;obtain⟨rfl,hp5⟩:=hp5;have Hp5:=zh (aO.from (e:=.returned (.tuple #[])) (v:=.tuple #[]) Hsv.out ((Below.refl _ _).alloc zn _) ⟨rfl,hp5⟩);clear hp5)
      obtain⟨_,hp6,hp7,hp8⟩:=Hp5.out
      exact⟨⟨k+1,AO,by simp,by rw[Hst.out];exact hp6,Hss.out.trans hp7,Hbb.out.trans hp8⟩,by simp[intOf];omega⟩
     ·obtain rfl:k=l.length:=by omega
      obtain⟨w6,rfl⟩:∃ w6,w6=wr:=⟨wr,rfl⟩
      obtain⟨g,hg⟩:∃ g,g=bM l:=⟨_,rfl⟩
      have hsv:=Hsv.out
      rw[show (l.take l.length).foldl doE eng0=g by rw[List.take_length,hg];rfl] at hsv
      have Hv2:=zh (show bS2 l=(g.out,0) by rw[hg];exact Hv1.out)
      have Hk:=zh (show ∀ r ∈ g.replies,dC7 r.pairs by rw[hg];exact dD5 l)
      clear hg
      obtain⟨G,hGe⟩:∃ G,G=w5.heap.size+1:=⟨_,rfl⟩
      rw[← hGe] at hsv ⊢
      obtain⟨m,hm⟩:=hsv.eng
      obtain⟨gf,fcap,FA,fc,hv1,hcf,hlf,hTs,hgf⟩:=hm.forest_at (k:=g.synced) hsv.inv.holds.few
      obtain⟨WA,wc,hvw⟩:=aP6 hm.rows.wai
      obtain⟨RA,rc,hvr⟩:=aP6 hm.rows.rep
      have c4:w6.cell? ⟨G,4,none⟩=some (.slice (some ⟨gf,0,none⟩) (g.commits.length+1) fcap):=by rw[hm.cell,hm.cells.fo,hv1]
      have c5:=(hm.cell 5).trans hm.cells.syn
      have gl:=hm.lt
      have hfew:=hsv.inv.holds.few
      have hmany:=hsv.inv.many
      have hi0:(0:Int)≤(g.synced:Int):=by omega
      have hi1:(g.synced:Int)<((g.commits.length+1:Nat):Int):=by omega
      have hi2:(g.synced:Int)<(g.commits.length:Int)+1:=by omega
      have hi3:g.synced<g.commits.length+1:=by omega
      have Hm:=zh hm
      have HTs:=zh hTs
      have Hvw:=zh hvw
      have Hvr:=zh hvr
      have hbx6:w6.heap[w.heap.size]?=some (.cells #[.bool false,.int .i64 0,.int .i64 0,.slice none 0 0,.slice none 0 0] 29 (0,0)):=(Hss.out.block w.heap.size hRl hRl).trans Hbx.out
      have Hbx6:=zh hbx6
      have hB6:w.heap.size<w6.heap.size:=(Array.getElem?_eq_some_iff.1 hbx6).1
      have hGn:¬ (w.heap.size=G):=by omega
      have hGn':¬ (G=w.heap.size):=by omega
      have HGe:=zh hGe
      clear hm hTs hvw hvr hbx6 hv1 hsv hGe
      go_wp2_with fail
      go_region_held3 (fun w'=>w'.cell? ⟨G,4,none⟩=some (.slice (some ⟨gf,0,none⟩) (g.commits.length+1) fcap)∧w'.cell? ⟨G,5,none⟩=some (.int .i64 (g.synced:Int))∧w'.cell? ⟨gf,g.synced,none⟩=some (.slice FA (aS g.commits g.synced).length fc))
       (first
        | go_keep
        | exact⟨(H3.out.cell gl).trans c4,(H3.out.cell gl).trans c5,(H3.out.cell hgf).trans hcf⟩)
       ((go_at_call 30;(with_reducible refine (cP0 _ FA (aS g.commits g.synced) fc ?g1 (bZ6 _ _)).mono ?_);(case g1=>(refine HTs.out.same tenR_stays ?_;exact SM));rintro e8 w8 ⟨A8,k8,rfl,hk8,hs8,hb8⟩;have H3:=zh (show Below w6.heap.size w6 w8 from (Below.refl w6.heap.size w6).drew.next hb8 zn);have S8:=zh (show Ts (aB w6.heap.size) w8 A8 (aS g.commits g.synced) from hs8);clear hs8))
      have hm8:=Hm.out.below (F':=fun b=>b<w5.heap.size) H3.out fun b hb=>.inl hb
      have k0:=(hm8.cell 0).trans hm8.cells.up
      have k5:=(hm8.cell 5).trans hm8.cells.syn
      have k22:w8.cell? ⟨G,22,none⟩=some (.slice WA g.waiting.length wc):=(hm8.cell 22).trans (hm8.cells.wai.trans (congrArg some Hvw.out))
      have k23:w8.cell? ⟨G,23,none⟩=some (.slice RA g.replies.length rc):=(hm8.cell 23).trans (hm8.cells.rep.trans (congrArg some Hvr.out))
      have hbx8:=(H3.out.block w.heap.size hB6).trans Hbx6.out
      have o0:=aA hbx8 0
      have f0:=aD hbx8 0
      have o1:=aA hbx8 1
      have f1:=aD hbx8 1
      have o2:=aA hbx8 2
      have f2:=aD hbx8 2
      have o3:=aA hbx8 3
      have f3:=aD hbx8 3
      have o4:=aA hbx8 4
      have f4:=aD hbx8 4
      simp only[List.getElem?_cons_zero,List.getElem?_cons_succ] at o0 o1 o2 o3 o4
      have Hm8:=zh hm8
      have Hbx8:=zh (show dD6 w8 w.heap.size from hbx8)
      clear hm8 hbx8 c4 c5 hcf
      go_wp2_with fail
      go_region
      all_goals go_wp2
      refine bodyPost_ret (v:=.tuple #[.agg #[.bool g.up,.int .i64 (g.synced:Int),.int .i64 (g.waiting.length:Int),.slice A8 (aS g.commits g.synced).length k8,.slice RA g.replies.length rc],.int .i64 0]) (by simp[results,Tryz.results15,go_sem,o0,o1,o2,o3,o4]) rfl ?_
      rw[Hv2.out]
      have hr8:=Hm8.out.rows.rep
      rw[Hvr.out] at hr8
      have sA:aC (fun b=>b≠w.heap.size) w8 (((((w8.setCell ⟨w.heap.size,0,none⟩ (.bool g.up)).setCell ⟨w.heap.size,1,none⟩ (.int .i64 (g.synced:Int))).setCell ⟨w.heap.size,2,none⟩ (.int .i64 (g.waiting.length:Int))).setCell ⟨w.heap.size,3,none⟩ (.slice A8 (aS g.commits g.synced).length k8)).setCell ⟨w.heap.size,4,none⟩ (.slice RA g.replies.length rc)).drew:=((((((aC.refl _ w8).setCell (p:=⟨w.heap.size,0,none⟩) (fun h=>h rfl) _).setCell (p:=⟨w.heap.size,1,none⟩) (fun h=>h rfl) _).setCell (p:=⟨w.heap.size,2,none⟩) (fun h=>h rfl) _).setCell (p:=⟨w.heap.size,3,none⟩) (fun h=>h rfl) _).setCell (p:=⟨w.heap.size,4,none⟩) (fun h=>h rfl) _).drew
      have sB:aC (aB w6.heap.size) w8 (((((w8.setCell ⟨w.heap.size,0,none⟩ (.bool g.up)).setCell ⟨w.heap.size,1,none⟩ (.int .i64 (g.synced:Int))).setCell ⟨w.heap.size,2,none⟩ (.int .i64 (g.waiting.length:Int))).setCell ⟨w.heap.size,3,none⟩ (.slice A8 (aS g.commits g.synced).length k8)).setCell ⟨w.heap.size,4,none⟩ (.slice RA g.replies.length rc)).drew:=((((((aC.refl _ w8).setCell (p:=⟨w.heap.size,0,none⟩) ZC4 _).setCell (p:=⟨w.heap.size,1,none⟩) ZC4 _).setCell (p:=⟨w.heap.size,2,none⟩) ZC4 _).setCell (p:=⟨w.heap.size,3,none⟩) ZC4 _).setCell (p:=⟨w.heap.size,4,none⟩) ZC4 _).drew
      have hb6:Below w.heap.size w w6:=⟨Hbb.out.os.trans Hbr.out.os,Hbb.out.tape.trans Hbr.out.tape,Hbb.out.output.trans Hbr.out.output,Nat.le_trans Hbr.out.size Hbb.out.size,fun k hk=>(Hss.out.block k (Nat.lt_trans hk hRl) (Nat.lt_trans hk hRl)).trans (Hbr.out.block k hk)⟩
      have hb8:Below w.heap.size w w8:=hb6.next H3.out hb6.size
      have hown:∀ b,(Value.slice RA g.replies.length rc).ownBlock=some b→w5.heap.size≤b:=fun b hb=>by
       rcases Nat.lt_or_ge b w5.heap.size with h|h
       ·exact absurd (by rw[Hvr.out];exact hb) ((Hm8.out.fixF b h).2 3 AO)
       ·exact h
      refine⟨A8,k8,RA,rc,rfl,(S8.out.same tenR_stays sB).lo tenR_stays hb6.size,rep_sl hr8 (fun b hb=>⟨by have:=hown b hb;have:=Hbr.out.size;show w.heap.size≤b;omega,sA.block b (by have:=hown b hb;omega) (bG4 hr8 hb)⟩),((dE1 (hr8.sl0 rpR_stays) Hbx8.out Hk.out).same rpR_stays ⟨sA.size,fun k hk hl=>sA.block k hk.2 hl⟩).z rpR_stays,(((((hb8.setCell (p:=⟨w.heap.size,0,none⟩) zn _).setCell (p:=⟨w.heap.size,1,none⟩) zn _).setCell (p:=⟨w.heap.size,2,none⟩) zn _).setCell (p:=⟨w.heap.size,3,none⟩) zn _).setCell (p:=⟨w.heap.size,4,none⟩) zn _).drew⟩
end Go.Proofs.YtablgnacmpcfeaaGreatDoor
