/- TopW: Who waits: a session waits when it stands in the row of those that wait, and stands there once. Plain words, no program. Asks whose bytes are known by what they say; a row of acts that grows by one ask. No condition. A session that only reads: its commit is told at once, with its start. Plain words, no program. What a session that only reads is told, as ran answers it. No condition. The conditions of each are in its words. -/
import Derived.Test.YtodopbnhkkkcbaaGreatDoorKTopL
import Derived.Test.YtodopbnhkkkcbaaGreatDoorKTopO
import Derived.Test.YtodopbnhkkkcbaaGreatDoorKHidK
namespace Go.Proofs.YtodopbnhkkkcbaaGreatDoor
open Go.RowKit
set_option linter.unusedVariables false
set_option linter.unusedSimpArgs false
structure Wt (g:Eng):Prop where
 iff:∀ s,s<8→((g.at s).waits=true↔s ∈ g.waiting)
 once:g.waiting.Nodup
theorem wt_zero:Wt eng0:=⟨fun s _=>by rw[show eng0.at s=ss0 from cO1 s];simp[ss0,eng0],List.nodup_nil⟩
section
variable {g g' : Eng} {n : Nat}
theorem Wt.says {s:Nat} {r:Rp} (h:Wt g) (k:Says g g' s r):Wt g':=⟨fun x hx=>by rw[k.waits,k.waiting];exact h.iff x hx,by rw[k.waiting];exact h.once⟩
theorem Wt.queues {s:Nat} {c:Cm} (h:Wt g) (hs:s<8) (hw:(g.at s).waits=false) (k:cO2 g g' s c):Wt g':=by
 have hn:s ∉ g.waiting:=fun hm=>by rw[(h.iff s hs).2 hm] at hw;cases hw
 refine⟨fun x hx=>?_,?_⟩
 ·rw[k.waiting,List.mem_append,List.mem_singleton]
  by_cases e:x=s
  ·subst e;rw[k.mine];simp
  ·rw[k.others x e,h.iff x hx];simp[e]
 ·rw[k.waiting,List.nodup_append]
  exact⟨h.once,by simp,fun a ha b hb=>by rw[List.mem_singleton] at hb;subst hb;intro e;exact hn (e ▸ ha)⟩
theorem sync_waits:∀ (ws:List Nat) (g:Eng),g.sess.length=8→(∀ s ∈ ws,s<8)→∀ s,s<8→((ws.foldl aC1 g).at s).waits=if s ∈ ws then false else (g.at s).waits
 | [],g,_,_,s,_=>by simp
 | a :: ws,g,hl,hw,s,hs=>by
  have ha:a<8:=hw a ZH2
  have h1:(aC1 g a).sess.length=8:=by show (g.sess.set a _).length=8;simpa using hl
  rw[List.foldl_cons,sync_waits ws (aC1 g a) h1 (fun x hx=>hw x (by simp[hx])) s hs]
  have h2:(aC1 g a).at s=if s=a then ⟨(g.at a).txn,false⟩ else g.at s:=by
   show ((g.put a _).at s)=_
   rw[aH6 g a s _ AO]
  rw[h2]
  by_cases e:s=a
  ·subst e;simp
  ·by_cases e2:s ∈ ws <;> simp[e,e2]
theorem Wt.act (h:Wt g) (hi:Inv g n) {a:Ac} (ha:aB6 a=0):Wt (doE g a):=by
 obtain⟨h1,h2,_⟩:=aT9 ha
 unfold doE
 split
 ·rename_i hk
  have hs:=h1 hk
  rcases cV8 hi.sess (s:=a.session.toNat) AO a.data with ⟨p,hp⟩|⟨c,hc,_,_,_,hw⟩
  ·exact h.says hp
  ·exact h.queues AO hw hc
 ·split
  ·unfold aV2
   split
   ·exact h
   ·refine⟨fun s hs=>?_,List.nodup_nil⟩
    have h3:=sync_waits g.waiting { g with tape:=if aR5 g.tape then (g.tape.1,(g.tape.1.length:Int)) else ([],0) } hi.sess hi.who s hs
    show (Eng.at (g.waiting.foldl aC1 { g with tape:=if aR5 g.tape then (g.tape.1,(g.tape.1.length:Int)) else ([],0) }) s).waits=true↔s ∈ ([]:List Nat)
    rw[h3]
    by_cases e:s ∈ g.waiting
    ·simp[e]
    ·rw[if_neg e]
     show (g.at s).waits=true↔_
     rw[h.iff s hs]
     simp[e]
  ·split
   ·unfold aS1
    split
    ·exact h
    ·exact⟨fun s hs=>by
      show ((List.replicate 8 ss0).getD s ss0).waits=true↔_
      rw[cO1 s];simp[ss0],List.nodup_nil⟩
   ·exact⟨h.iff,h.once⟩
end
theorem wt_acts:∀ (l:List Ac) (g:Eng) (n:Nat),Wt g→Inv g n→(∀ a ∈ l,aB6 a=0)→Wt (l.foldl doE g)
 | [],_,_,h,_,_=>h
 | a :: l,g,n,h,hi,hl=>wt_acts l (doE g a) (n+1) (h.act hi (hl a ZH2)) (hi.act (hl a ZH2)) fun b hb=>hl b (by simp[hb])
theorem ran_wt {l:List Ac} (h:∀ a ∈ l,aB6 a=0):Wt (bM l):=wt_acts l eng0 0 wt_zero inv_zero h
def dE7 (g:Eng):Prop:=g.up=false→g.waiting=[]
theorem dE7.act {g:Eng} {n:Nat} (h:dE7 g) (hi:Inv g n) {a:Ac} (ha:aB6 a=0):dE7 (doE g a):=by
 obtain⟨h1,h2,_⟩:=aT9 ha
 unfold doE
 split
 ·rename_i hk
  have hs:=h1 hk
  rcases cV8 hi.sess (s:=a.session.toNat) AO a.data with ⟨p,hp⟩|⟨c,hc,hu,_⟩
  ·exact fun e=>by rw[hp.waiting];exact h (hp.up.symm.trans e)
  ·exact fun e=>by rw[hc.up,hu] at e;cases e
 ·split
  ·unfold aV2
   split
   ·exact h
   ·exact fun _=>rfl
  ·split
   ·unfold aS1
    split
    ·exact h
    ·exact fun _=>rfl
   ·exact fun e=>by cases e
structure dE8 (g:Eng) (s:Nat):Prop where
 up:g.up=true
 free:(g.at s).waits=false
 txn:∃ rs,(g.at s).txn=some ⟨g.synced,rs,[]⟩
theorem dE9 (t:Tx) (r:Wr) (h:(aH7 t r).2=0):(aH7 t r).1.start=t.start∧(aH7 t r).1.writes=t.writes:=by
 unfold aH7 at h ⊢
 split
 ·rename_i h1;rw[if_pos h1] at h;exact absurd h h1
 ·rename_i h1
  rw[if_neg h1] at h
  split
  ·rename_i h2;rw[if_pos h2] at h;exact absurd h h2
  ·rename_i h2
   rw[if_neg h2] at h
   split
   ·exact⟨rfl,rfl⟩
   ·rename_i h3
    rw[if_neg h3] at h
    split
    ·rename_i h4;rw[if_pos h4] at h;cases h
    ·exact⟨rfl,rfl⟩
section
variable {g : Eng} {s : Nat}
theorem dE8.say (h:dE8 g s) (r:Rp):dE8 (g.say r) s:=⟨h.up,h.free,h.txn⟩
theorem dF0 (hl:g.sess.length=8) (hs:s<8) (t:Option Tx):(g.txn s t).at s=⟨t,(g.at s).waits⟩:=by
 show ((g.put s ⟨t,(g.at s).waits⟩)).at s=_
 rw[aH6 g s s _ AO,if_pos rfl]
theorem dE8.note (h:dE8 g s) (hl:g.sess.length=8) (hs:s<8) {rs:List Wr} (ht:(g.at s).txn=some ⟨g.synced,rs,[]⟩) (r:Rq):dE8 (aE8 g s ⟨g.synced,rs,[]⟩ r).1 s:=by
 unfold aE8
 by_cases h0:(aH7 ⟨g.synced,rs,[]⟩ (aG1 r).1).2=0
 ·rw[if_neg (by simpa using h0)]
  obtain⟨h1,h2⟩:=dE9 _ _ h0
  refine⟨h.up,by show ((g.txn s _).at s).waits=false;rw[dF0 hl hs];exact h.free,⟨_,by
   show ((g.txn s _).at s).txn=some ⟨g.synced,(aH7 ⟨g.synced,rs,[]⟩ (aG1 r).1).1.reads,[]⟩
   rw[dF0 hl hs]
   generalize aH7 ⟨g.synced,rs,[]⟩ (aG1 r).1=z at *
   obtain⟨⟨z1,z2,z3⟩,z4⟩:=z
   dsimp only at h1 h2
   subst h1 h2
   rfl⟩⟩
 ·rw[if_pos h0]
  exact h.say _
theorem dE8.work (h:dE8 g s) (hl:g.sess.length=8) (hs:s<8) {rs:List Wr} (ht:(g.at s).txn=some ⟨g.synced,rs,[]⟩) {r:Rq} (hr:r.kind=2∨r.kind=3):dE8 (aG8 g s ⟨g.synced,rs,[]⟩ r) s:=by
 have hn:=h.note hl hs ht r
 unfold aG8
 split
 ·unfold getE
  split
  ·exact hn
  ·refine dE8.say ?_ _
   split
   ·exact h
   ·exact hn
 ·rename_i h2
  rw[if_pos AO]
  unfold scanE
  split
  ·exact h.say _
  ·split
   ·exact hn
   ·exact hn.say _
theorem dE8.ask (h:dE8 g s) (hl:g.sess.length=8) (hs:s<8) {d:List UInt8} (hd:(aM2 d).2=0→(aM2 d).1.kind=2∨(aM2 d).1.kind=3∨(aM2 d).1.kind=8):dE8 (aS0 g s d) s:=by
 unfold aS0
 rw[if_neg (by rw[h.up];simp)]
 split
 ·exact h.say _
 ·rename_i h0
  have hk:=hd (by simpa using h0)
  generalize (aM2 d).1=r at *
  unfold aH3
  split
  ·exact h.say _
  ·rename_i h8
   obtain⟨rs,ht⟩:=h.txn
   rw[if_neg (by rw[h.free,ht];simp;omega),if_neg AO,if_neg AO,ht]
   have hkept:bS0 (g.synced:Int) ((some (⟨g.synced,rs,[]⟩:Tx)).getD zeroTx).start=true:=by
    show bS0 (g.synced:Int) (g.synced:Int)=true
    unfold bS0
    simp
   rw[if_neg (by rw[hkept];simp)]
   exact h.work hl hs ht AO
end
end Go.Proofs.YtodopbnhkkkcbaaGreatDoor
