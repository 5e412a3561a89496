/- TopL: Plain laws for the laws of the whole: what is told while the server is down; turns that a sync tells. No program. Walks: canopykeep's SameForest and what it leans on. A reply among others, with all that it points to. No condition. What a proof that is asked for tells: as if nothing waited. Plain words, no program. A list appended to a row of the call's own, in a region that draws its order; a proof that is asked for. No condition. Who waits: a session waits when it stands in the row of those that wait, and stands there once. Plain words, no program. Asks whose bytes are known by what they say; a row of acts that grows by one ask. No condition. A session that only reads: its commit is told at once, with its start. Plain words, no program. What a session that only reads is told, as ran answers it. No condition. The conditions of each are in its words. -/
import Derived.Test.YtablgnacmpcfeaaGreatDoorKSrvP
import Derived.Test.YtablgnacmpcfeaaGreatDoorKForest
import Derived.Test.YtablgnacmpcfeaaGreatDoorKTrees
import Derived.Test.YtablgnacmpcfeaaGreatDoorKTopO
namespace Go.Proofs.YtablgnacmpcfeaaGreatDoor
open Go.RowKit
set_option linter.unusedVariables false
set_option linter.unusedSimpArgs false
set_option maxRecDepth 100000
set_option maxHeartbeats 8000000
theorem Inv.start {g:Eng} {n:Nat} (h:Inv g n):Inv { g with up:=true } n:={ h with }
theorem aU1 (w:World) (A B:Option Addr) (a b:List UInt8) (c d:Nat) (ha:Bs All w A a) (hb:Bs All w B b) :
  Calls Tryz.prog 70 #[.slice A a.length c,.slice B b.length d] w fun e w'=>e=.returned (.bool (a==b))∧w=w':=by
 have h1:=bE2 ha 44 9 5 c Tryz.underlying44 Tryz.underlying5 Tryz.underlying9
 have h2:=bE2 hb 44 9 5 d Tryz.underlying44 Tryz.underlying5 Tryz.underlying9
 clear ha hb
 go_enter Tryz.func70,Tryz.ntmps70
 go_wp2
 go_ret
 exact⟨rfl,rfl⟩
theorem cC4 (w:World) (A B A' B':Option Addr) (p:Pr) (c d c' d':Nat) (ha:Bs All w A p.1) (hb:Bs All w B p.2) (ha':Bs All w A' p.1) (hb':Bs All w B' p.2) :
  Calls Tryz.prog 116 #[.agg #[.slice A p.1.length c,.slice B p.2.length d],.agg #[.slice A' p.1.length c',.slice B' p.2.length d']] w (bQ w (.bool true)):=by
 have Ha:=zh ha
 have Hb:=zh hb
 have Ha':=zh ha'
 have Hb':=zh hb'
 clear ha hb ha' hb'
 go_enter Tryz.func116,Tryz.ntmps116
 go_wp2_with (first
  | (go_at_call 70;(with_reducible refine (aU1 _ A A' p.1 p.1 c c' ?hx ?hy).mono ?_);(case hx=>(refine Ha.out.bbelow ?_;exact BE));(case hy=>(refine Ha'.out.bbelow ?_;exact BE));rintro e w2 ⟨rfl,rfl⟩)
  | (go_at_call 70;(with_reducible refine (aU1 _ B B' p.2 p.2 d d' ?hx ?hy).mono ?_);(case hx=>(refine Hb.out.bbelow ?_;exact BE));(case hy=>(refine Hb'.out.bbelow ?_;exact BE));rintro e w2 ⟨rfl,rfl⟩))
 go_ret
 refine⟨by simp,?_⟩
 exact BE
theorem bU6 (w:World) (A B:Option Addr) (l:List Pr) (c d:Nat) (ha:Ps All w A l) (hb:Ps All w B l) (hn:l.length≤big) :
  Calls Tryz.prog 71 #[.slice A l.length c,.slice B l.length d] w (bQ w (.bool true)):=by
 unfold big at hn
 have Ha:=zh ha
 have Hb:=zh hb
 clear ha hb
 go_enter Tryz.func71,Tryz.ntmps71
 go_wp2
 go_loopw [5] (fun i wr=>∃ k:Nat,k≤l.length∧i=.int .i64 k∧Below w.heap.size w wr) (fun i _=>l.length - (intOf i).toNat)
 case atStart=>exact⟨0,AO,rfl,Below.refl _ _⟩
 case round =>
  obtain⟨k,hk,rfl,hbel⟩:=hrel
  have Hbel:=zh hbel
  clear hbel
  by_cases hlt:k<l.length
  ·obtain⟨ab,ao,K,c1,V,d1,rfl,_,hal,hc1,hc2,hs1,hs2,_,_⟩:=aE3 (Ha.out.below pairR_stays Hbel.out) hlt
   obtain⟨bb,bo,K',c1',V',d1',rfl,_,hbl,hc3,hc4,hs3,hs4,_,_⟩:=aE3 (Hb.out.below pairR_stays Hbel.out) hlt
   generalize l[k]=x at *
   have hi0:(0:Int)≤(k:Int):=by omega
   have hi1:(k:Int)<(l.length:Int):=by omega
   go_wp2_with fail
   go_region_held3 (fun w'=>w'.cell? ⟨ab,ao+k*2,none⟩=some (.slice K x.1.length c1)∧w'.cell? ⟨ab,ao+k*2+1,none⟩=some (.slice V x.2.length d1)∧w'.cell? ⟨bb,bo+k*2,none⟩=some (.slice K' x.1.length c1')∧w'.cell? ⟨bb,bo+k*2+1,none⟩=some (.slice V' x.2.length d1'))
    (first
     | go_keep
     | (go_split_ands;refine⟨(hbw2.cell ZC8).trans ZF3,(hbw2.cell ZC8).trans ZF3,(hbw2.cell ZC8).trans ZF3,(hbw2.cell ZC8).trans ZF3⟩))
    ((go_at_call 116;(with_reducible refine (cC4 _ K V K' V' x c1 d1 c1' d1' (hs1.bz.bsame (aC.refl _ _).drew) (hs2.bz.bsame (aC.refl _ _).drew) (hs3.bz.bsame (aC.refl _ _).drew) (hs4.bz.bsame (aC.refl _ _).drew)).mono ?_);rintro e w2 ⟨rfl,hbw2⟩))
   go_wp2
   go_roundw
   case rel=>exact⟨k+1,AO,by go_num,Hbel.out.drew.next hbw2 (by have hz2:=Hbel.out.size;simp;omega)⟩
   case measure=>simp[intOf];omega
  ·go_wp2
   go_ret
   exact⟨rfl,Hbel.out⟩
theorem bS7 (w:World) (A B:Option Addr) (l:List Tn) (c d:Nat) (ha:Ts All w A l) (hb:Ts All w B l) (hn:l.length≤big) :
  Calls Tryz.prog 33 #[.slice A l.length c,.slice B l.length d] w (bQ w (.bool true)):=by
 unfold big at hn
 have Ha:=zh ha
 have Hb:=zh hb
 clear ha hb
 go_enter Tryz.func33,Tryz.ntmps33
 go_wp2
 go_loopw [5] (fun i wr=>∃ k:Nat,k≤l.length∧i=.int .i64 k∧Below w.heap.size w wr) (fun i _=>l.length - (intOf i).toNat)
 case atStart=>exact⟨0,AO,rfl,Below.refl _ _⟩
 case round =>
  obtain⟨k,hk,rfl,hbel⟩:=hrel
  have Hbel:=zh hbel
  have hbz:=hbel.size
  clear hbel
  by_cases hlt:k<l.length
  ·obtain⟨ab,ao,K,c1,V,d1,rfl,_,hal,hc1,hc2,hs1,hs2,_,h48,_⟩:=aN8 (Ha.out.below tenR_stays Hbel.out) hlt
   obtain⟨bb,bo,K',c1',V',d1',rfl,_,hbl,hc3,hc4,hs3,hs4,_,_,_⟩:=aN8 (Hb.out.below tenR_stays Hbel.out) hlt
   generalize l[k]=x at *
   have hi0:(0:Int)≤(k:Int):=by omega
   have hi1:(k:Int)<(l.length:Int):=by omega
   have e1:(x.1==x.1)=true:=by simp
   have hxb:x.2.length≤big:=by unfold big;omega
   go_wp2_with fail
   go_region_held3 (fun w'=>w'.cell? ⟨ab,ao+k*2,none⟩=some (.slice K x.1.length c1)∧w'.cell? ⟨ab,ao+k*2+1,none⟩=some (.slice V x.2.length d1)∧w'.cell? ⟨bb,bo+k*2,none⟩=some (.slice K' x.1.length c1')∧w'.cell? ⟨bb,bo+k*2+1,none⟩=some (.slice V' x.2.length d1'))
    (first
     | go_keep
     | (go_split_ands;refine⟨(hbw2.cell ZC8).trans ZF3,(hbw2.cell ZC8).trans ZF3,(hbw2.cell ZC8).trans ZF3,(hbw2.cell ZC8).trans ZF3⟩))
    (first
     | (go_at_call 70;refine (aU1 _ K K' x.1 x.1 c1 c1' (hs1.bz.bsame SM) (hs3.bz.bsame SM)).mono ?_;rintro e w3 ⟨rfl,rfl⟩)
     | (go_at_call 71;refine (bU6 _ V V' x.2 d1 d1' ((hs2.z pairR_stays).same pairR_stays SM) ((hs4.z pairR_stays).same pairR_stays SM) hxb).mono ?_;rintro e w2 ⟨rfl,hbw2⟩))
   go_wp2
   go_roundw
   case rel=>exact⟨k+1,AO,by go_num,Hbel.out.drew.next hbw2 ZC8⟩
   case measure=>simp[intOf];omega
  ·go_wp2
   go_ret
   exact⟨rfl,Hbel.out⟩
theorem SameForestK_ok (w:World) (A B:Option Addr) (l:List Tn) (c d:Nat) (ha:Ts All w A l) (hb:Ts All w B l) (hn:l.length≤big) :
  Calls Tryz.prog 13 #[.slice A l.length c,.slice B l.length d] w (bQ w (.bool true)):=by
 have h:=bS7 w A B l c d ha hb hn
 go_enter Tryz.func13,Tryz.ntmps13
 go_wp2_with (go_at_call 33;(with_reducible refine h.mono ?_);rintro e w1 ⟨rfl,hb1⟩)
 go_ret
 exact⟨rfl,hb1⟩
def dE6 (r:Rp) (V:Option Addr) (v:Nat) (P:Option Addr) (p:Nat) (R:Option Addr) (q:Nat) (A:Option Addr) (n:Nat) (K:Option Addr) (a:Nat) (X:Option Addr) (y:Nat) (A':Option Addr) (n':Nat) (K':Option Addr) (a':Nat) (X':Option Addr) (y':Nat):List Value:=[.int .i64 r.session,.int .i64 r.code,.int .i64 r.turn,.bool r.found,.slice V r.value.length v,.slice P r.pairs.length p,.slice R r.root.length q,.bool r.outer.empty,.slice A r.outer.steps.length n,.slice K r.outer.pair.1.length a,.slice X r.outer.pair.2.length y,.bool r.inner.empty,.slice A' r.inner.steps.length n',.slice K' r.inner.pair.1.length a',.slice X' r.inner.pair.2.length y']
theorem rep_vals {S:Nat→Prop} {w:World} {R0:Option Addr} {l:List Rp} (h:SL 15 RpR S w R0 l) {k:Nat} (hk:k<l.length) :
  ∃ b off V v P p R q A n K a X y A' n' K' a' X' y',R0=some ⟨b,off,none⟩∧b<w.heap.size∧(∀ j,j<15→w.cell? ⟨b,off+k*15+j,none⟩=(dE6 l[k] V v P p R q A n K a X y A' n' K' a' X' y')[j]?)∧Bs S w V l[k].value∧Ps S w P l[k].pairs∧Bs S w R l[k].root∧(Sts S w A l[k].outer.steps∧Bs S w K l[k].outer.pair.1∧Bs S w X l[k].outer.pair.2)∧(Sts S w A' l[k].inner.steps∧Bs S w K' l[k].inner.pair.1∧Bs S w X' l[k].inner.pair.2):=by
 obtain⟨b,off,cs,hA,hb,hlt,hlen,hc,V,v,P,p,R,q,A,n,K,a,X,y,A',n',K',a',X',b',rfl,hr⟩:=h.at hk
 exact⟨b,off,V,v,P,p,R,q,A,n,K,a,X,y,A',n',K',a',X',b',hA,hlt,hc,hr⟩
structure Wt (g:Eng):Prop where
 iff:∀ s,s<8→((g.at s).waits=true↔s ∈ g.waiting)
 once:g.waiting.Nodup
section
variable {g g' : Eng} {n : Nat}
theorem Wt.says {s:Nat} {r:Rp} (h:Wt g) (k:Says g g' s r):Wt g':=⟨fun x hx=>by rw[k.waits,k.waiting];exact h.iff x hx,by rw[k.waiting];exact h.once⟩
theorem Wt.queues {s:Nat} {c:Cm} (h:Wt g) (hs:s<8) (hw:(g.at s).waits=false) (k:cO2 g g' s c):Wt g':=by
 have hn:s ∉ g.waiting:=fun hm=>by rw[(h.iff s hs).2 hm] at hw;cases hw
 refine⟨fun x hx=>?_,?_⟩
 ·rw[k.waiting,List.mem_append,List.mem_singleton]
  by_cases e:x=s
  ·subst e;rw[k.mine];simp
  ·rw[k.others x e,h.iff x hx];simp[e]
 ·rw[k.waiting,List.nodup_append]
  exact⟨h.once,by simp,fun a ha b hb=>by rw[List.mem_singleton] at hb;subst hb;intro e;exact hn (e ▸ ha)⟩
theorem sync_waits:∀ (ws:List Nat) (g:Eng),g.sess.length=8→(∀ s ∈ ws,s<8)→∀ s,s<8→((ws.foldl aC1 g).at s).waits=if s ∈ ws then false else (g.at s).waits
 | [],g,_,_,s,_=>by simp
 | a :: ws,g,hl,hw,s,hs=>by
  have ha:a<8:=hw a ZH2
  have h1:(aC1 g a).sess.length=8:=by show (g.sess.set a _).length=8;simpa using hl
  rw[List.foldl_cons,sync_waits ws (aC1 g a) h1 (fun x hx=>hw x (by simp[hx])) s hs]
  have h2:(aC1 g a).at s=if s=a then ⟨(g.at a).txn,false⟩ else g.at s:=by
   show ((g.put a _).at s)=_
   rw[aH6 g a s _ AO]
  rw[h2]
  by_cases e:s=a
  ·subst e;simp
  ·by_cases e2:s ∈ ws <;> simp[e,e2]
theorem Wt.act (h:Wt g) (hi:Inv g n) {a:Ac} (ha:aB6 a=0):Wt (doE g a):=by
 obtain⟨h1,h2,_⟩:=aT9 ha
 unfold doE
 split
 ·rename_i hk
  have hs:=h1 hk
  rcases cV8 hi.sess (s:=a.session.toNat) AO a.data with ⟨p,hp⟩|⟨c,hc,_,_,_,hw⟩
  ·exact h.says hp
  ·exact h.queues AO hw hc
 ·split
  ·unfold aV2
   split
   ·exact h
   ·refine⟨fun s hs=>?_,List.nodup_nil⟩
    have h3:=sync_waits g.waiting { g with tape:=if aR5 g.tape then (g.tape.1,(g.tape.1.length:Int)) else ([],0) } hi.sess hi.who s hs
    show (Eng.at (g.waiting.foldl aC1 { g with tape:=if aR5 g.tape then (g.tape.1,(g.tape.1.length:Int)) else ([],0) }) s).waits=true↔s ∈ ([]:List Nat)
    rw[h3]
    by_cases e:s ∈ g.waiting
    ·simp[e]
    ·rw[if_neg e]
     show (g.at s).waits=true↔_
     rw[h.iff s hs]
     simp[e]
  ·split
   ·unfold aS1
    split
    ·exact h
    ·exact⟨fun s hs=>by
      show ((List.replicate 8 ss0).getD s ss0).waits=true↔_
      rw[cO1 s];simp[ss0],List.nodup_nil⟩
   ·exact⟨h.iff,h.once⟩
end
def dE7 (g:Eng):Prop:=g.up=false→g.waiting=[]
theorem dE7.act {g:Eng} {n:Nat} (h:dE7 g) (hi:Inv g n) {a:Ac} (ha:aB6 a=0):dE7 (doE g a):=by
 obtain⟨h1,h2,_⟩:=aT9 ha
 unfold doE
 split
 ·rename_i hk
  have hs:=h1 hk
  rcases cV8 hi.sess (s:=a.session.toNat) AO a.data with ⟨p,hp⟩|⟨c,hc,hu,_⟩
  ·exact fun e=>by rw[hp.waiting];exact h (hp.up.symm.trans e)
  ·exact fun e=>by rw[hc.up,hu] at e;cases e
 ·split
  ·unfold aV2
   split
   ·exact h
   ·exact fun _=>rfl
  ·split
   ·unfold aS1
    split
    ·exact h
    ·exact fun _=>rfl
   ·exact fun e=>by cases e
structure dE8 (g:Eng) (s:Nat):Prop where
 up:g.up=true
 free:(g.at s).waits=false
 txn:∃ rs,(g.at s).txn=some ⟨g.synced,rs,[]⟩
theorem dE9 (t:Tx) (r:Wr) (h:(aH7 t r).2=0):(aH7 t r).1.start=t.start∧(aH7 t r).1.writes=t.writes:=by
 unfold aH7 at h ⊢
 split
 ·rename_i h1;rw[if_pos h1] at h;exact absurd h h1
 ·rename_i h1
  rw[if_neg h1] at h
  split
  ·rename_i h2;rw[if_pos h2] at h;exact absurd h h2
  ·rename_i h2
   rw[if_neg h2] at h
   split
   ·exact⟨rfl,rfl⟩
   ·rename_i h3
    rw[if_neg h3] at h
    split
    ·rename_i h4;rw[if_pos h4] at h;cases h
    ·exact⟨rfl,rfl⟩
section
variable {g : Eng} {s : Nat}
theorem dE8.say (h:dE8 g s) (r:Rp):dE8 (g.say r) s:=⟨h.up,h.free,h.txn⟩
theorem dF0 (hl:g.sess.length=8) (hs:s<8) (t:Option Tx):(g.txn s t).at s=⟨t,(g.at s).waits⟩:=by
 show ((g.put s ⟨t,(g.at s).waits⟩)).at s=_
 rw[aH6 g s s _ AO,if_pos rfl]
theorem dE8.note (h:dE8 g s) (hl:g.sess.length=8) (hs:s<8) {rs:List Wr} (ht:(g.at s).txn=some ⟨g.synced,rs,[]⟩) (r:Rq):dE8 (aE8 g s ⟨g.synced,rs,[]⟩ r).1 s:=by
 unfold aE8
 by_cases h0:(aH7 ⟨g.synced,rs,[]⟩ (aG1 r).1).2=0
 ·rw[if_neg (by simpa using h0)]
  obtain⟨h1,h2⟩:=dE9 _ _ h0
  refine⟨h.up,by show ((g.txn s _).at s).waits=false;rw[dF0 hl hs];exact h.free,⟨_,by
   show ((g.txn s _).at s).txn=some ⟨g.synced,(aH7 ⟨g.synced,rs,[]⟩ (aG1 r).1).1.reads,[]⟩
   rw[dF0 hl hs]
   generalize aH7 ⟨g.synced,rs,[]⟩ (aG1 r).1=z at *
   obtain⟨⟨z1,z2,z3⟩,z4⟩:=z
   dsimp only at h1 h2
   subst h1 h2
   rfl⟩⟩
 ·rw[if_pos h0]
  exact h.say _
theorem dE8.work (h:dE8 g s) (hl:g.sess.length=8) (hs:s<8) {rs:List Wr} (ht:(g.at s).txn=some ⟨g.synced,rs,[]⟩) {r:Rq} (hr:r.kind=2∨r.kind=3):dE8 (aG8 g s ⟨g.synced,rs,[]⟩ r) s:=by
 have hn:=h.note hl hs ht r
 unfold aG8
 split
 ·unfold getE
  split
  ·exact hn
  ·refine dE8.say ?_ _
   split
   ·exact h
   ·exact hn
 ·rename_i h2
  rw[if_pos AO]
  unfold scanE
  split
  ·exact h.say _
  ·split
   ·exact hn
   ·exact hn.say _
theorem dE8.ask (h:dE8 g s) (hl:g.sess.length=8) (hs:s<8) {d:List UInt8} (hd:(aM2 d).2=0→(aM2 d).1.kind=2∨(aM2 d).1.kind=3∨(aM2 d).1.kind=8):dE8 (aS0 g s d) s:=by
 unfold aS0
 rw[if_neg (by rw[h.up];simp)]
 split
 ·exact h.say _
 ·rename_i h0
  have hk:=hd (by simpa using h0)
  generalize (aM2 d).1=r at *
  unfold aH3
  split
  ·exact h.say _
  ·rename_i h8
   obtain⟨rs,ht⟩:=h.txn
   rw[if_neg (by rw[h.free,ht];simp;omega),if_neg AO,if_neg AO,ht]
   have hkept:bS0 (g.synced:Int) ((some (⟨g.synced,rs,[]⟩:Tx)).getD zeroTx).start=true:=by
    show bS0 (g.synced:Int) (g.synced:Int)=true
    unfold bS0
    simp
   rw[if_neg (by rw[hkept];simp)]
   exact h.work hl hs ht AO
end
end Go.Proofs.YtablgnacmpcfeaaGreatDoor
