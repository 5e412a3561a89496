/- TopW: A reply among others, with all that it points to. No condition. What a proof that is asked for tells: as if nothing waited. Plain words, no program. A list appended to a row of the call's own, in a region that draws its order; a proof that is asked for. No condition. Who waits: a session waits when it stands in the row of those that wait, and stands there once. Plain words, no program. Asks whose bytes are known by what they say; a row of acts that grows by one ask. No condition. A session that only reads: its commit is told at once, with its start. Plain words, no program. What a session that only reads is told, as ran answers it. No condition. The conditions of each are in its words. -/
import Derived.Test.YtodopbnhkkkcbaaGreatDoorKTopO
import Derived.Test.YtodopbnhkkkcbaaGreatDoorKTopL
namespace Go.Proofs.YtodopbnhkkkcbaaGreatDoor
open Go.RowKit
set_option linter.unusedVariables false
set_option linter.unusedSimpArgs false
def dE6 (r:Rp) (V:Option Addr) (v:Nat) (P:Option Addr) (p:Nat) (R:Option Addr) (q:Nat) (A:Option Addr) (n:Nat) (K:Option Addr) (a:Nat) (X:Option Addr) (y:Nat) (A':Option Addr) (n':Nat) (K':Option Addr) (a':Nat) (X':Option Addr) (y':Nat):List Value:=[.int .i64 r.session,.int .i64 r.code,.int .i64 r.turn,.bool r.found,.slice V r.value.length v,.slice P r.pairs.length p,.slice R r.root.length q,.bool r.outer.empty,.slice A r.outer.steps.length n,.slice K r.outer.pair.1.length a,.slice X r.outer.pair.2.length y,.bool r.inner.empty,.slice A' r.inner.steps.length n',.slice K' r.inner.pair.1.length a',.slice X' r.inner.pair.2.length y']
theorem rep_vals {S:Nat→Prop} {w:World} {R0:Option Addr} {l:List Rp} (h:SL 15 RpR S w R0 l) {k:Nat} (hk:k<l.length) :
  ∃ b off V v P p R q A n K a X y A' n' K' a' X' y',R0=some ⟨b,off,none⟩∧b<w.heap.size∧(∀ j,j<15→w.cell? ⟨b,off+k*15+j,none⟩=(dE6 l[k] V v P p R q A n K a X y A' n' K' a' X' y')[j]?)∧Bs S w V l[k].value∧Ps S w P l[k].pairs∧Bs S w R l[k].root∧(Sts S w A l[k].outer.steps∧Bs S w K l[k].outer.pair.1∧Bs S w X l[k].outer.pair.2)∧(Sts S w A' l[k].inner.steps∧Bs S w K' l[k].inner.pair.1∧Bs S w X' l[k].inner.pair.2):=by
 obtain⟨b,off,cs,hA,hb,hlt,hlen,hc,V,v,P,p,R,q,A,n,K,a,X,y,A',n',K',a',X',b',rfl,hr⟩:=h.at hk
 exact⟨b,off,V,v,P,p,R,q,A,n,K,a,X,y,A',n',K',a',X',b',hA,hlt,hc,hr⟩
theorem dJ1 {g:Eng} {s:Nat} {d:List UInt8} {r:Rq} (hd:aM2 d=(r,0)) (h8:r.kind=8):aS0 g s d=g.say (if g.up=false then aE4 s 13 else bS1 g s r):=by
 unfold aS0
 by_cases hu:g.up=false
 ·rw[if_pos hu,if_pos hu]
 ·rw[if_neg hu,if_neg hu,hd,if_neg ZH2]
  unfold aH3
  rw[if_pos h8]
structure Wt (g:Eng):Prop where
 iff:∀ s,s<8→((g.at s).waits=true↔s ∈ g.waiting)
 once:g.waiting.Nodup
theorem wt_zero:Wt eng0:=⟨fun s _=>by rw[show eng0.at s=ss0 from cO1 s];simp[ss0,eng0],List.nodup_nil⟩
section
variable {g g' : Eng} {n : Nat}
theorem Wt.says {s:Nat} {r:Rp} (h:Wt g) (k:Says g g' s r):Wt g':=⟨fun x hx=>by rw[k.waits,k.waiting];exact h.iff x hx,by rw[k.waiting];exact h.once⟩
theorem Wt.queues {s:Nat} {c:Cm} (h:Wt g) (hs:s<8) (hw:(g.at s).waits=false) (k:cO2 g g' s c):Wt g':=by
 have hn:s ∉ g.waiting:=fun hm=>by rw[(h.iff s hs).2 hm] at hw;cases hw
 refine⟨fun x hx=>?_,?_⟩
 ·rw[k.waiting,List.mem_append,List.mem_singleton]
  by_cases e:x=s
  ·subst e;rw[k.mine];simp
  ·rw[k.others x e,h.iff x hx];simp[e]
 ·rw[k.waiting,List.nodup_append]
  exact⟨h.once,by simp,fun a ha b hb=>by rw[List.mem_singleton] at hb;subst hb;intro e;exact hn (e ▸ ha)⟩
theorem sync_waits:∀ (ws:List Nat) (g:Eng),g.sess.length=8→(∀ s ∈ ws,s<8)→∀ s,s<8→((ws.foldl aC1 g).at s).waits=if s ∈ ws then false else (g.at s).waits
 | [],g,_,_,s,_=>by simp
 | a :: ws,g,hl,hw,s,hs=>by
  have ha:a<8:=hw a ZH2
  have h1:(aC1 g a).sess.length=8:=by show (g.sess.set a _).length=8;simpa using hl
  rw[List.foldl_cons,sync_waits ws (aC1 g a) h1 (fun x hx=>hw x (by simp[hx])) s hs]
  have h2:(aC1 g a).at s=if s=a then ⟨(g.at a).txn,false⟩ else g.at s:=by
   show ((g.put a _).at s)=_
   rw[aH6 g a s _ AO]
  rw[h2]
  by_cases e:s=a
  ·subst e;simp
  ·by_cases e2:s ∈ ws <;> simp[e,e2]
theorem Wt.act (h:Wt g) (hi:Inv g n) {a:Ac} (ha:aB6 a=0):Wt (doE g a):=by
 obtain⟨h1,h2,_⟩:=aT9 ha
 unfold doE
 split
 ·rename_i hk
  have hs:=h1 hk
  rcases cV8 hi.sess (s:=a.session.toNat) AO a.data with ⟨p,hp⟩|⟨c,hc,_,_,_,hw⟩
  ·exact h.says hp
  ·exact h.queues AO hw hc
 ·split
  ·unfold aV2
   split
   ·exact h
   ·refine⟨fun s hs=>?_,List.nodup_nil⟩
    have h3:=sync_waits g.waiting { g with tape:=if aR5 g.tape then (g.tape.1,(g.tape.1.length:Int)) else ([],0) } hi.sess hi.who s hs
    show (Eng.at (g.waiting.foldl aC1 { g with tape:=if aR5 g.tape then (g.tape.1,(g.tape.1.length:Int)) else ([],0) }) s).waits=true↔s ∈ ([]:List Nat)
    rw[h3]
    by_cases e:s ∈ g.waiting
    ·simp[e]
    ·rw[if_neg e]
     show (g.at s).waits=true↔_
     rw[h.iff s hs]
     simp[e]
  ·split
   ·unfold aS1
    split
    ·exact h
    ·exact⟨fun s hs=>by
      show ((List.replicate 8 ss0).getD s ss0).waits=true↔_
      rw[cO1 s];simp[ss0],List.nodup_nil⟩
   ·exact⟨h.iff,h.once⟩
end
theorem wt_acts:∀ (l:List Ac) (g:Eng) (n:Nat),Wt g→Inv g n→(∀ a ∈ l,aB6 a=0)→Wt (l.foldl doE g)
 | [],_,_,h,_,_=>h
 | a :: l,g,n,h,hi,hl=>wt_acts l (doE g a) (n+1) (h.act hi (hl a ZH2)) (hi.act (hl a ZH2)) fun b hb=>hl b (by simp[hb])
theorem ran_wt {l:List Ac} (h:∀ a ∈ l,aB6 a=0):Wt (bM l):=wt_acts l eng0 0 wt_zero inv_zero h
theorem dE3 (s:Nat) (sI:Int) (hsI:sI=s) (hs:s<8) (k:Int) (hk:k=1∨k=6∨k=7):∃ d:List UInt8,Hid (∀ w:World,bL w→Calls Tryz.prog 13 #[.int .i64 sI,.agg #[.int .i64 k,.slice none 0 0,.slice none 0 0,.slice none 0 0,.slice none 0 0]] w (RetAsk w sI d))∧aB6 ⟨1,(s:Int),0,d⟩=0∧aM2 d=(⟨k,[],[],[],[]⟩,0)∧d.length≤4000:=by
 subst hsI
 have hf:=cY5 k hk
 refine⟨(bK9 ⟨k,[],[],[],[]⟩).1,zh fun w hH=>dE2 w hH s AO none none none none ⟨k,[],[],[],[]⟩ 0 0 0 0 SL.nil SL.nil SL.nil SL.nil,cY8 hs (cY0 hf).2,(cY0 hf).1,(cY0 hf).2⟩
theorem sl_four {α:Type} {size:Nat} {R:(Nat→Prop)→World→List Value→α→Prop} {S:Nat→Prop} (W:World) (b:Nat) (c0 c1 c2 c3:List Value) (t:TypeId) (h:W.heap[b]?=some (.cells (c0++(c1++(c2++c3))).toArray t (0,0))) (h0:c0.length=size) (h1:c1.length=size) (h2:c2.length=size) (h3:c3.length=size) (x0 x1 x2 x3:α) (r0:R S W c0 x0) (r1:R S W c1 x1) (r2:R S W c2 x2) (r3:R S W c3 x3) (hS:S b):SL size R S W (some ⟨b,0,none⟩) [x0,x1,x2,x3]:=by
 refine fun _=>⟨b,0,rfl,hS,(Array.getElem?_eq_some_iff.1 h).1,fun i hi=>?_⟩
 have hi':i<4:=hi
 have:i=0∨i=1∨i=2∨i=3:=by omega
 rcases this with rfl|rfl|rfl|rfl
 ·exact⟨c0,h0,fun j hj=>by rw[aA h,List.getElem?_append_left AO];simp,r0⟩
 ·exact⟨c1,h1,fun j hj=>by rw[aA h,List.getElem?_append_right AO,List.getElem?_append_left AO];congr 1;omega,r1⟩
 ·exact⟨c2,h2,fun j hj=>by rw[aA h,List.getElem?_append_right AO,List.getElem?_append_right AO,List.getElem?_append_left AO];congr 1;omega,r2⟩
 ·exact⟨c3,h3,fun j hj=>by rw[aA h,List.getElem?_append_right AO,List.getElem?_append_right AO,List.getElem?_append_right AO];congr 1;omega,r3⟩
def dE7 (g:Eng):Prop:=g.up=false→g.waiting=[]
theorem dE7.act {g:Eng} {n:Nat} (h:dE7 g) (hi:Inv g n) {a:Ac} (ha:aB6 a=0):dE7 (doE g a):=by
 obtain⟨h1,h2,_⟩:=aT9 ha
 unfold doE
 split
 ·rename_i hk
  have hs:=h1 hk
  rcases cV8 hi.sess (s:=a.session.toNat) AO a.data with ⟨p,hp⟩|⟨c,hc,hu,_⟩
  ·exact fun e=>by rw[hp.waiting];exact h (hp.up.symm.trans e)
  ·exact fun e=>by rw[hc.up,hu] at e;cases e
 ·split
  ·unfold aV2
   split
   ·exact h
   ·exact fun _=>rfl
  ·split
   ·unfold aS1
    split
    ·exact h
    ·exact fun _=>rfl
   ·exact fun e=>by cases e
structure dE8 (g:Eng) (s:Nat):Prop where
 up:g.up=true
 free:(g.at s).waits=false
 txn:∃ rs,(g.at s).txn=some ⟨g.synced,rs,[]⟩
theorem dE9 (t:Tx) (r:Wr) (h:(aH7 t r).2=0):(aH7 t r).1.start=t.start∧(aH7 t r).1.writes=t.writes:=by
 unfold aH7 at h ⊢
 split
 ·rename_i h1;rw[if_pos h1] at h;exact absurd h h1
 ·rename_i h1
  rw[if_neg h1] at h
  split
  ·rename_i h2;rw[if_pos h2] at h;exact absurd h h2
  ·rename_i h2
   rw[if_neg h2] at h
   split
   ·exact⟨rfl,rfl⟩
   ·rename_i h3
    rw[if_neg h3] at h
    split
    ·rename_i h4;rw[if_pos h4] at h;cases h
    ·exact⟨rfl,rfl⟩
section
variable {g : Eng} {s : Nat}
theorem dE8.say (h:dE8 g s) (r:Rp):dE8 (g.say r) s:=⟨h.up,h.free,h.txn⟩
theorem dF0 (hl:g.sess.length=8) (hs:s<8) (t:Option Tx):(g.txn s t).at s=⟨t,(g.at s).waits⟩:=by
 show ((g.put s ⟨t,(g.at s).waits⟩)).at s=_
 rw[aH6 g s s _ AO,if_pos rfl]
theorem dE8.note (h:dE8 g s) (hl:g.sess.length=8) (hs:s<8) {rs:List Wr} (ht:(g.at s).txn=some ⟨g.synced,rs,[]⟩) (r:Rq):dE8 (aE8 g s ⟨g.synced,rs,[]⟩ r).1 s:=by
 unfold aE8
 by_cases h0:(aH7 ⟨g.synced,rs,[]⟩ (aG1 r).1).2=0
 ·rw[if_neg (by simpa using h0)]
  obtain⟨h1,h2⟩:=dE9 _ _ h0
  refine⟨h.up,by show ((g.txn s _).at s).waits=false;rw[dF0 hl hs];exact h.free,⟨_,by
   show ((g.txn s _).at s).txn=some ⟨g.synced,(aH7 ⟨g.synced,rs,[]⟩ (aG1 r).1).1.reads,[]⟩
   rw[dF0 hl hs]
   generalize aH7 ⟨g.synced,rs,[]⟩ (aG1 r).1=z at *
   obtain⟨⟨z1,z2,z3⟩,z4⟩:=z
   dsimp only at h1 h2
   subst h1 h2
   rfl⟩⟩
 ·rw[if_pos h0]
  exact h.say _
theorem dE8.work (h:dE8 g s) (hl:g.sess.length=8) (hs:s<8) {rs:List Wr} (ht:(g.at s).txn=some ⟨g.synced,rs,[]⟩) {r:Rq} (hr:r.kind=2∨r.kind=3):dE8 (aG8 g s ⟨g.synced,rs,[]⟩ r) s:=by
 have hn:=h.note hl hs ht r
 unfold aG8
 split
 ·unfold getE
  split
  ·exact hn
  ·refine dE8.say ?_ _
   split
   ·exact h
   ·exact hn
 ·rename_i h2
  rw[if_pos AO]
  unfold scanE
  split
  ·exact h.say _
  ·split
   ·exact hn
   ·exact hn.say _
theorem dE8.ask (h:dE8 g s) (hl:g.sess.length=8) (hs:s<8) {d:List UInt8} (hd:(aM2 d).2=0→(aM2 d).1.kind=2∨(aM2 d).1.kind=3∨(aM2 d).1.kind=8):dE8 (aS0 g s d) s:=by
 unfold aS0
 rw[if_neg (by rw[h.up];simp)]
 split
 ·exact h.say _
 ·rename_i h0
  have hk:=hd (by simpa using h0)
  generalize (aM2 d).1=r at *
  unfold aH3
  split
  ·exact h.say _
  ·rename_i h8
   obtain⟨rs,ht⟩:=h.txn
   rw[if_neg (by rw[h.free,ht];simp;omega),if_neg AO,if_neg AO,ht]
   have hkept:bS0 (g.synced:Int) ((some (⟨g.synced,rs,[]⟩:Tx)).getD zeroTx).start=true:=by
    show bS0 (g.synced:Int) (g.synced:Int)=true
    unfold bS0
    simp
   rw[if_neg (by rw[hkept];simp)]
   exact h.work hl hs ht AO
end
end Go.Proofs.YtodopbnhkkkcbaaGreatDoor
