/- TopW: Who waits: a session waits when it stands in the row of those that wait, and stands there once. Plain words, no program. Asks whose bytes are known by what they say; a row of acts that grows by one ask. No condition. The conditions of each are in its words. -/
import Derived.Test.YtlhpfgpagggdlaaGreatDoorKTopL
import Derived.Test.YtlhpfgpagggdlaaGreatDoorKTopO
namespace Go.Proofs.YtlhpfgpagggdlaaGreatDoor
open Go.RowKit
set_option linter.unusedVariables false
set_option linter.unusedSimpArgs false
structure Wt (g:Eng):Prop where
 iff:∀ s,s<8→((g.at s).waits=true↔s ∈ g.waiting)
 once:g.waiting.Nodup
theorem wt_zero:Wt eng0:=⟨fun s _=>by rw[show eng0.at s=ss0 from cO1 s];simp[ss0,eng0],List.nodup_nil⟩
section
variable {g g' : Eng} {n : Nat}
theorem Wt.says {s:Nat} {r:Rp} (h:Wt g) (k:Says g g' s r):Wt g':=⟨fun x hx=>by rw[k.waits,k.waiting];exact h.iff x hx,by rw[k.waiting];exact h.once⟩
theorem Wt.queues {s:Nat} {c:Cm} (h:Wt g) (hs:s<8) (hw:(g.at s).waits=false) (k:cO2 g g' s c):Wt g':=by
 have hn:s ∉ g.waiting:=fun hm=>by rw[(h.iff s hs).2 hm] at hw;cases hw
 refine⟨fun x hx=>?_,?_⟩
 ·rw[k.waiting,List.mem_append,List.mem_singleton]
  by_cases e:x=s
  ·subst e;rw[k.mine];simp
  ·rw[k.others x e,h.iff x hx];simp[e]
 ·rw[k.waiting,List.nodup_append]
  exact⟨h.once,by simp,fun a ha b hb=>by rw[List.mem_singleton] at hb;subst hb;intro e;exact hn (e ▸ ha)⟩
theorem sync_waits:∀ (ws:List Nat) (g:Eng),g.sess.length=8→(∀ s ∈ ws,s<8)→∀ s,s<8→((ws.foldl aC1 g).at s).waits=if s ∈ ws then false else (g.at s).waits
 | [],g,_,_,s,_=>by simp
 | a :: ws,g,hl,hw,s,hs=>by
  have ha:a<8:=hw a (by simp)
  have h1:(aC1 g a).sess.length=8:=by show (g.sess.set a _).length=8;simpa using hl
  rw[List.foldl_cons,sync_waits ws (aC1 g a) h1 (fun x hx=>hw x (by simp[hx])) s hs]
  have h2:(aC1 g a).at s=if s=a then ⟨(g.at a).txn,false⟩ else g.at s:=by
   show ((g.put a _).at s)=_
   rw[aH6 g a s _ AO]
  rw[h2]
  by_cases e:s=a
  ·subst e;simp
  ·by_cases e2:s ∈ ws <;> simp[e,e2]
theorem Wt.act (h:Wt g) (hi:Inv g n) {a:Ac} (ha:aB6 a=0):Wt (doE g a):=by
 obtain⟨h1,h2,_⟩:=aT9 ha
 unfold doE
 split
 ·rename_i hk
  have hs:=h1 hk
  rcases cV8 hi.sess (s:=a.session.toNat) AO a.data with ⟨p,hp⟩|⟨c,hc,_,_,_,hw⟩
  ·exact h.says hp
  ·exact h.queues AO hw hc
 ·split
  ·unfold aV2
   split
   ·exact h
   ·refine⟨fun s hs=>?_,List.nodup_nil⟩
    have h3:=sync_waits g.waiting { g with tape:=if aR5 g.tape then (g.tape.1,(g.tape.1.length:Int)) else ([],0) } hi.sess hi.who s hs
    show (Eng.at (g.waiting.foldl aC1 { g with tape:=if aR5 g.tape then (g.tape.1,(g.tape.1.length:Int)) else ([],0) }) s).waits=true↔s ∈ ([]:List Nat)
    rw[h3]
    by_cases e:s ∈ g.waiting
    ·simp[e]
    ·rw[if_neg e]
     show (g.at s).waits=true↔_
     rw[h.iff s hs]
     simp[e]
  ·split
   ·unfold aS1
    split
    ·exact h
    ·exact⟨fun s hs=>by
      show ((List.replicate 8 ss0).getD s ss0).waits=true↔_
      rw[cO1 s];simp[ss0],List.nodup_nil⟩
   ·exact⟨h.iff,h.once⟩
end
theorem wt_acts:∀ (l:List Ac) (g:Eng) (n:Nat),Wt g→Inv g n→(∀ a ∈ l,aB6 a=0)→Wt (l.foldl doE g)
 | [],_,_,h,_,_=>h
 | a :: l,g,n,h,hi,hl=>wt_acts l (doE g a) (n+1) (h.act hi (hl a (by simp))) (hi.act (hl a (by simp))) fun b hb=>hl b (by simp[hb])
theorem ran_wt {l:List Ac} (h:∀ a ∈ l,aB6 a=0):Wt (bM l):=wt_acts l eng0 0 wt_zero inv_zero h
def Asky (a:Ac):Prop:=a.kind=1∧0≤a.session∧a.session<8∧((aM2 a.data).2=0→(aM2 a.data).1.kind≠6)
theorem dA1 {g:Eng} {n:Nat} (hi:Inv g n) {a:Ac} (h:Asky a):∃ r,Says g (doE g a) a.session.toNat r:=by
 obtain⟨h1,h2,h3,h4⟩:=h
 unfold doE
 rw[if_pos h1]
 rcases cV8 hi.sess (s:=a.session.toNat) AO a.data with ⟨p,hp⟩|⟨c,hc,_,h5,h6,_⟩
 ·exact⟨p,hp⟩
 ·exact absurd h6 (h4 h5)
theorem asky_fold:∀ (m:List Ac) (g:Eng) (n:Nat),Inv g n→(∀ a ∈ m,aB6 a=0∧Asky a) →
  (m.foldl doE g).up=g.up∧(m.foldl doE g).synced=g.synced∧(m.foldl doE g).commits=g.commits∧(m.foldl doE g).waiting=g.waiting∧(m.foldl doE g).replies.length=g.replies.length+m.length
 | [],_,_,_,_=>⟨rfl,rfl,rfl,rfl,rfl⟩
 | a :: m,g,n,hi,hm=>by
  obtain⟨h1,h2⟩:=hm a (by simp)
  obtain⟨r,hr⟩:=dA1 hi h2
  obtain⟨b1,b2,b3,b4,b5⟩:=asky_fold m (doE g a) (n+1) (hi.act h1) fun b hb=>hm b (by simp[hb])
  rw[List.foldl_cons]
  refine⟨b1.trans hr.up,b2.trans hr.synced,b3.trans hr.commits,b4.trans hr.waiting,?_⟩
  rw[b5,hr.replies]
  simp
  omega
theorem dec_nil:(aM2 []).2≠0:=by decide
theorem asky_req {s:Nat} (hs:s<8) {r:Rq} (hr:r.kind≠6):Asky (askA s r):=by
 refine⟨rfl,by show (0:Int)≤(s:Int);omega,by show (s:Int)<8;omega,fun h=>?_⟩
 show (aM2 (bK9 r).1).1.kind≠6
 by_cases hf:aQ r=0
 ·rw[(cY0 hf).1];exact hr
 ·exfalso
  have h':(aM2 (bK9 r).1).2=0:=h
  rw[show (bK9 r).1=[] by unfold bK9;rw[if_pos hf]] at h'
  exact dec_nil h'
theorem dE3 (s:Nat) (sI:Int) (hsI:sI=s) (hs:s<8) (k:Int) (hk:k=1∨k=6∨k=7):∃ d:List UInt8,Hid (∀ w:World,bL w→Calls Tryz.prog 23 #[.int .i64 sI,.agg #[.int .i64 k,.slice none 0 0,.slice none 0 0,.slice none 0 0,.slice none 0 0]] w (RetAsk w sI d))∧aB6 ⟨1,(s:Int),0,d⟩=0∧aM2 d=(⟨k,[],[],[],[]⟩,0)∧d.length≤4000:=by
 subst hsI
 have hf:=cY5 k hk
 refine⟨(bK9 ⟨k,[],[],[],[]⟩).1,zh fun w hH=>dE2 w hH s AO none none none none ⟨k,[],[],[],[]⟩ 0 0 0 0 SL.nil SL.nil SL.nil SL.nil,cY8 hs (cY0 hf).2,(cY0 hf).1,(cY0 hf).2⟩
theorem dE4 (s:Nat) (sI:Int) (hsI:sI=s) (hs:s<8) (r:Rq):∃ d:List UInt8,Hid (∀ (w:World) (A B C D:Option Addr) (a b c d':Nat),bL w→Bs All w A r.name→Bs All w B r.key→Bs All w C r.last→Bs All w D r.value→Calls Tryz.prog 23 #[.int .i64 sI,.agg #[.int .i64 r.kind,.slice A r.name.length a,.slice B r.key.length b,.slice C r.last.length c,.slice D r.value.length d']] w (RetAsk w sI d))∧aB6 ⟨1,(s:Int),0,d⟩=0∧((aM2 d).2=0→(aM2 d).1=r)∧d.length≤4000:=by
 subst hsI
 refine⟨(bK9 r).1,zh fun w A B C D a b c d' hH hA hB hC hD=>dE2 w hH s AO A B C D r a b c d' hA hB hC hD,cY8 hs (enc_len r),fun h=>?_,enc_len r⟩
 by_cases hf:aQ r=0
 ·rw[(cY0 hf).1]
 ·rw[show (bK9 r).1=[] by unfold bK9;rw[if_pos hf]] at h
  exact absurd h dec_nil
theorem dE5 {s:Nat} (hs:s<8) {d:List UInt8} {r:Rq} (h:(aM2 d).2=0→(aM2 d).1=r) (hr:r.kind≠6):Asky ⟨1,(s:Int),0,d⟩:=⟨rfl,by show (0:Int)≤(s:Int);omega,by show (s:Int)<8;omega,fun e=>by
 show (aM2 d).1.kind≠6
 rw[h e];exact hr⟩
theorem sl_four {α:Type} {size:Nat} {R:(Nat→Prop)→World→List Value→α→Prop} {S:Nat→Prop} (W:World) (b:Nat) (c0 c1 c2 c3:List Value) (t:TypeId) (h:W.heap[b]?=some (.cells (c0++(c1++(c2++c3))).toArray t (0,0))) (h0:c0.length=size) (h1:c1.length=size) (h2:c2.length=size) (h3:c3.length=size) (x0 x1 x2 x3:α) (r0:R S W c0 x0) (r1:R S W c1 x1) (r2:R S W c2 x2) (r3:R S W c3 x3) (hS:S b):SL size R S W (some ⟨b,0,none⟩) [x0,x1,x2,x3]:=by
 refine fun _=>⟨b,0,rfl,hS,(Array.getElem?_eq_some_iff.1 h).1,fun i hi=>?_⟩
 have hi':i<4:=hi
 have:i=0∨i=1∨i=2∨i=3:=by omega
 rcases this with rfl|rfl|rfl|rfl
 ·exact⟨c0,h0,fun j hj=>by rw[aA h,List.getElem?_append_left AO];simp,r0⟩
 ·exact⟨c1,h1,fun j hj=>by rw[aA h,List.getElem?_append_right AO,List.getElem?_append_left AO];congr 1;omega,r1⟩
 ·exact⟨c2,h2,fun j hj=>by rw[aA h,List.getElem?_append_right AO,List.getElem?_append_right AO,List.getElem?_append_left AO];congr 1;omega,r2⟩
 ·exact⟨c3,h3,fun j hj=>by rw[aA h,List.getElem?_append_right AO,List.getElem?_append_right AO,List.getElem?_append_right AO];congr 1;omega,r3⟩
def dE6 (r:Rp) (V:Option Addr) (v:Nat) (P:Option Addr) (p:Nat) (R:Option Addr) (q:Nat) (A:Option Addr) (n:Nat) (K:Option Addr) (a:Nat) (X:Option Addr) (y:Nat) (A':Option Addr) (n':Nat) (K':Option Addr) (a':Nat) (X':Option Addr) (y':Nat):List Value:=[.int .i64 r.session,.int .i64 r.code,.int .i64 r.turn,.bool r.found,.slice V r.value.length v,.slice P r.pairs.length p,.slice R r.root.length q,.bool r.outer.empty,.slice A r.outer.steps.length n,.slice K r.outer.pair.1.length a,.slice X r.outer.pair.2.length y,.bool r.inner.empty,.slice A' r.inner.steps.length n',.slice K' r.inner.pair.1.length a',.slice X' r.inner.pair.2.length y']
theorem rep_vals {S:Nat→Prop} {w:World} {R0:Option Addr} {l:List Rp} (h:SL 15 RpR S w R0 l) {k:Nat} (hk:k<l.length) :
  ∃ b off V v P p R q A n K a X y A' n' K' a' X' y',R0=some ⟨b,off,none⟩∧b<w.heap.size∧(∀ j,j<15→w.cell? ⟨b,off+k*15+j,none⟩=(dE6 l[k] V v P p R q A n K a X y A' n' K' a' X' y')[j]?)∧Bs S w V l[k].value∧Ps S w P l[k].pairs∧Bs S w R l[k].root∧(Sts S w A l[k].outer.steps∧Bs S w K l[k].outer.pair.1∧Bs S w X l[k].outer.pair.2)∧(Sts S w A' l[k].inner.steps∧Bs S w K' l[k].inner.pair.1∧Bs S w X' l[k].inner.pair.2):=by
 obtain⟨b,off,cs,hA,hb,hlt,hlen,hc,V,v,P,p,R,q,A,n,K,a,X,y,A',n',K',a',X',b',rfl,hr⟩:=h.at hk
 exact⟨b,off,V,v,P,p,R,q,A,n,K,a,X,y,A',n',K',a',X',b',hA,hlt,hc,hr⟩
end Go.Proofs.YtlhpfgpagggdlaaGreatDoor
