/- TopW: Who waits: a session waits when it stands in the row of those that wait, and stands there once. Plain words, no program. Asks whose bytes are known by what they say; a row of acts that grows by one ask. No condition. A session that only reads: its commit is told at once, with its start. Plain words, no program. What a session that only reads is told, as ran answers it. No condition. The conditions of each are in its words. -/
import Derived.Test.YtodopbnhkkkcbaaGreatDoorKTopL
import Derived.Test.YtodopbnhkkkcbaaGreatDoorKTopO
import Derived.Test.YtodopbnhkkkcbaaGreatDoorKHidK
namespace Go.Proofs.YtodopbnhkkkcbaaGreatDoor
open Go.RowKit
set_option linter.unusedVariables false
set_option linter.unusedSimpArgs false
structure Wt (g:Eng):Prop where
 iff:∀ s,s<8→((g.at s).waits=true↔s ∈ g.waiting)
 once:g.waiting.Nodup
theorem wt_zero:Wt eng0:=⟨fun s _=>by rw[show eng0.at s=ss0 from cO1 s];simp[ss0,eng0],List.nodup_nil⟩
section
variable {g g' : Eng} {n : Nat}
theorem Wt.says {s:Nat} {r:Rp} (h:Wt g) (k:Says g g' s r):Wt g':=⟨fun x hx=>by rw[k.waits,k.waiting];exact h.iff x hx,by rw[k.waiting];exact h.once⟩
theorem Wt.queues {s:Nat} {c:Cm} (h:Wt g) (hs:s<8) (hw:(g.at s).waits=false) (k:cO2 g g' s c):Wt g':=by
 have hn:s ∉ g.waiting:=fun hm=>by rw[(h.iff s hs).2 hm] at hw;cases hw
 refine⟨fun x hx=>?_,?_⟩
 ·rw[k.waiting,List.mem_append,List.mem_singleton]
  by_cases e:x=s
  ·subst e;rw[k.mine];simp
  ·rw[k.others x e,h.iff x hx];simp[e]
 ·rw[k.waiting,List.nodup_append]
  exact⟨h.once,by simp,fun a ha b hb=>by rw[List.mem_singleton] at hb;subst hb;intro e;exact hn (e ▸ ha)⟩
theorem sync_waits:∀ (ws:List Nat) (g:Eng),g.sess.length=8→(∀ s ∈ ws,s<8)→∀ s,s<8→((ws.foldl aC1 g).at s).waits=if s ∈ ws then false else (g.at s).waits
 | [],g,_,_,s,_=>by simp
 | a :: ws,g,hl,hw,s,hs=>by
  have ha:a<8:=hw a ZH2
  have h1:(aC1 g a).sess.length=8:=by show (g.sess.set a _).length=8;simpa using hl
  rw[List.foldl_cons,sync_waits ws (aC1 g a) h1 (fun x hx=>hw x (by simp[hx])) s hs]
  have h2:(aC1 g a).at s=if s=a then ⟨(g.at a).txn,false⟩ else g.at s:=by
   show ((g.put a _).at s)=_
   rw[aH6 g a s _ AO]
  rw[h2]
  by_cases e:s=a
  ·subst e;simp
  ·by_cases e2:s ∈ ws <;> simp[e,e2]
theorem Wt.act (h:Wt g) (hi:Inv g n) {a:Ac} (ha:aB6 a=0):Wt (doE g a):=by
 obtain⟨h1,h2,_⟩:=aT9 ha
 unfold doE
 split
 ·rename_i hk
  have hs:=h1 hk
  rcases cV8 hi.sess (s:=a.session.toNat) AO a.data with ⟨p,hp⟩|⟨c,hc,_,_,_,hw⟩
  ·exact h.says hp
  ·exact h.queues AO hw hc
 ·split
  ·unfold aV2
   split
   ·exact h
   ·refine⟨fun s hs=>?_,List.nodup_nil⟩
    have h3:=sync_waits g.waiting { g with tape:=if aR5 g.tape then (g.tape.1,(g.tape.1.length:Int)) else ([],0) } hi.sess hi.who s hs
    show (Eng.at (g.waiting.foldl aC1 { g with tape:=if aR5 g.tape then (g.tape.1,(g.tape.1.length:Int)) else ([],0) }) s).waits=true↔s ∈ ([]:List Nat)
    rw[h3]
    by_cases e:s ∈ g.waiting
    ·simp[e]
    ·rw[if_neg e]
     show (g.at s).waits=true↔_
     rw[h.iff s hs]
     simp[e]
  ·split
   ·unfold aS1
    split
    ·exact h
    ·exact⟨fun s hs=>by
      show ((List.replicate 8 ss0).getD s ss0).waits=true↔_
      rw[cO1 s];simp[ss0],List.nodup_nil⟩
   ·exact⟨h.iff,h.once⟩
end
theorem wt_acts:∀ (l:List Ac) (g:Eng) (n:Nat),Wt g→Inv g n→(∀ a ∈ l,aB6 a=0)→Wt (l.foldl doE g)
 | [],_,_,h,_,_=>h
 | a :: l,g,n,h,hi,hl=>wt_acts l (doE g a) (n+1) (h.act hi (hl a ZH2)) (hi.act (hl a ZH2)) fun b hb=>hl b (by simp[hb])
theorem ran_wt {l:List Ac} (h:∀ a ∈ l,aB6 a=0):Wt (bM l):=wt_acts l eng0 0 wt_zero inv_zero h
def Asky (a:Ac):Prop:=a.kind=1∧0≤a.session∧a.session<8∧((aM2 a.data).2=0→(aM2 a.data).1.kind≠6)
theorem dA1 {g:Eng} {n:Nat} (hi:Inv g n) {a:Ac} (h:Asky a):∃ r,Says g (doE g a) a.session.toNat r:=by
 obtain⟨h1,h2,h3,h4⟩:=h
 unfold doE
 rw[if_pos h1]
 rcases cV8 hi.sess (s:=a.session.toNat) AO a.data with ⟨p,hp⟩|⟨c,hc,_,h5,h6,_⟩
 ·exact⟨p,hp⟩
 ·exact absurd h6 (h4 h5)
theorem asky_fold:∀ (m:List Ac) (g:Eng) (n:Nat),Inv g n→(∀ a ∈ m,aB6 a=0∧Asky a) →
  (m.foldl doE g).up=g.up∧(m.foldl doE g).synced=g.synced∧(m.foldl doE g).commits=g.commits∧(m.foldl doE g).waiting=g.waiting∧(m.foldl doE g).replies.length=g.replies.length+m.length
 | [],_,_,_,_=>⟨rfl,rfl,rfl,rfl,rfl⟩
 | a :: m,g,n,hi,hm=>by
  obtain⟨h1,h2⟩:=hm a ZH2
  obtain⟨r,hr⟩:=dA1 hi h2
  obtain⟨b1,b2,b3,b4,b5⟩:=asky_fold m (doE g a) (n+1) (hi.act h1) fun b hb=>hm b (by simp[hb])
  rw[List.foldl_cons]
  refine⟨b1.trans hr.up,b2.trans hr.synced,b3.trans hr.commits,b4.trans hr.waiting,?_⟩
  rw[b5,hr.replies]
  simp
  omega
theorem dec_nil:(aM2 []).2≠0:=by decide
theorem asky_req {s:Nat} (hs:s<8) {r:Rq} (hr:r.kind≠6):Asky (askA s r):=by
 refine⟨rfl,by show (0:Int)≤(s:Int);omega,by show (s:Int)<8;omega,fun h=>?_⟩
 show (aM2 (bK9 r).1).1.kind≠6
 by_cases hf:aQ r=0
 ·rw[(cY0 hf).1];exact hr
 ·exfalso
  have h':(aM2 (bK9 r).1).2=0:=h
  rw[show (bK9 r).1=[] by unfold bK9;rw[if_pos hf]] at h'
  exact dec_nil h'
theorem dE3 (s:Nat) (sI:Int) (hsI:sI=s) (hs:s<8) (k:Int) (hk:k=1∨k=6∨k=7):∃ d:List UInt8,Hid (∀ w:World,bL w→Calls Tryz.prog 13 #[.int .i64 sI,.agg #[.int .i64 k,.slice none 0 0,.slice none 0 0,.slice none 0 0,.slice none 0 0]] w (RetAsk w sI d))∧aB6 ⟨1,(s:Int),0,d⟩=0∧aM2 d=(⟨k,[],[],[],[]⟩,0)∧d.length≤4000:=by
 subst hsI
 have hf:=cY5 k hk
 refine⟨(bK9 ⟨k,[],[],[],[]⟩).1,zh fun w hH=>dE2 w hH s AO none none none none ⟨k,[],[],[],[]⟩ 0 0 0 0 SL.nil SL.nil SL.nil SL.nil,cY8 hs (cY0 hf).2,(cY0 hf).1,(cY0 hf).2⟩
theorem dE4 (s:Nat) (sI:Int) (hsI:sI=s) (hs:s<8) (r:Rq):∃ d:List UInt8,Hid (∀ (w:World) (A B C D:Option Addr) (a b c d':Nat),bL w→Bs All w A r.name→Bs All w B r.key→Bs All w C r.last→Bs All w D r.value→Calls Tryz.prog 13 #[.int .i64 sI,.agg #[.int .i64 r.kind,.slice A r.name.length a,.slice B r.key.length b,.slice C r.last.length c,.slice D r.value.length d']] w (RetAsk w sI d))∧aB6 ⟨1,(s:Int),0,d⟩=0∧((aM2 d).2=0→(aM2 d).1=r)∧d.length≤4000:=by
 subst hsI
 refine⟨(bK9 r).1,zh fun w A B C D a b c d' hH hA hB hC hD=>dE2 w hH s AO A B C D r a b c d' hA hB hC hD,cY8 hs (enc_len r),fun h=>?_,enc_len r⟩
 by_cases hf:aQ r=0
 ·rw[(cY0 hf).1]
 ·rw[show (bK9 r).1=[] by unfold bK9;rw[if_pos hf]] at h
  exact absurd h dec_nil
theorem dE5 {s:Nat} (hs:s<8) {d:List UInt8} {r:Rq} (h:(aM2 d).2=0→(aM2 d).1=r) (hr:r.kind≠6):Asky ⟨1,(s:Int),0,d⟩:=⟨rfl,by show (0:Int)≤(s:Int);omega,by show (s:Int)<8;omega,fun e=>by
 show (aM2 d).1.kind≠6
 rw[h e];exact hr⟩
theorem sl_four {α:Type} {size:Nat} {R:(Nat→Prop)→World→List Value→α→Prop} {S:Nat→Prop} (W:World) (b:Nat) (c0 c1 c2 c3:List Value) (t:TypeId) (h:W.heap[b]?=some (.cells (c0++(c1++(c2++c3))).toArray t (0,0))) (h0:c0.length=size) (h1:c1.length=size) (h2:c2.length=size) (h3:c3.length=size) (x0 x1 x2 x3:α) (r0:R S W c0 x0) (r1:R S W c1 x1) (r2:R S W c2 x2) (r3:R S W c3 x3) (hS:S b):SL size R S W (some ⟨b,0,none⟩) [x0,x1,x2,x3]:=by
 refine fun _=>⟨b,0,rfl,hS,(Array.getElem?_eq_some_iff.1 h).1,fun i hi=>?_⟩
 have hi':i<4:=hi
 have:i=0∨i=1∨i=2∨i=3:=by omega
 rcases this with rfl|rfl|rfl|rfl
 ·exact⟨c0,h0,fun j hj=>by rw[aA h,List.getElem?_append_left AO];simp,r0⟩
 ·exact⟨c1,h1,fun j hj=>by rw[aA h,List.getElem?_append_right AO,List.getElem?_append_left AO];congr 1;omega,r1⟩
 ·exact⟨c2,h2,fun j hj=>by rw[aA h,List.getElem?_append_right AO,List.getElem?_append_right AO,List.getElem?_append_left AO];congr 1;omega,r2⟩
 ·exact⟨c3,h3,fun j hj=>by rw[aA h,List.getElem?_append_right AO,List.getElem?_append_right AO,List.getElem?_append_right AO];congr 1;omega,r3⟩
def dE7 (g:Eng):Prop:=g.up=false→g.waiting=[]
theorem dE7.act {g:Eng} {n:Nat} (h:dE7 g) (hi:Inv g n) {a:Ac} (ha:aB6 a=0):dE7 (doE g a):=by
 obtain⟨h1,h2,_⟩:=aT9 ha
 unfold doE
 split
 ·rename_i hk
  have hs:=h1 hk
  rcases cV8 hi.sess (s:=a.session.toNat) AO a.data with ⟨p,hp⟩|⟨c,hc,hu,_⟩
  ·exact fun e=>by rw[hp.waiting];exact h (hp.up.symm.trans e)
  ·exact fun e=>by rw[hc.up,hu] at e;cases e
 ·split
  ·unfold aV2
   split
   ·exact h
   ·exact fun _=>rfl
  ·split
   ·unfold aS1
    split
    ·exact h
    ·exact fun _=>rfl
   ·exact fun e=>by cases e
theorem quiet_acts:∀ (l:List Ac) (g:Eng) (n:Nat),dE7 g→Inv g n→(∀ a ∈ l,aB6 a=0)→dE7 (l.foldl doE g)
 | [],_,_,h,_,_=>h
 | a :: l,g,n,h,hi,hl=>quiet_acts l (doE g a) (n+1) (h.act hi (hl a ZH2)) (hi.act (hl a ZH2)) fun b hb=>hl b (by simp[hb])
structure dE8 (g:Eng) (s:Nat):Prop where
 up:g.up=true
 free:(g.at s).waits=false
 txn:∃ rs,(g.at s).txn=some ⟨g.synced,rs,[]⟩
theorem dE9 (t:Tx) (r:Wr) (h:(aH7 t r).2=0):(aH7 t r).1.start=t.start∧(aH7 t r).1.writes=t.writes:=by
 unfold aH7 at h ⊢
 split
 ·rename_i h1;rw[if_pos h1] at h;exact absurd h h1
 ·rename_i h1
  rw[if_neg h1] at h
  split
  ·rename_i h2;rw[if_pos h2] at h;exact absurd h h2
  ·rename_i h2
   rw[if_neg h2] at h
   split
   ·exact⟨rfl,rfl⟩
   ·rename_i h3
    rw[if_neg h3] at h
    split
    ·rename_i h4;rw[if_pos h4] at h;cases h
    ·exact⟨rfl,rfl⟩
section
variable {g : Eng} {s : Nat}
theorem dE8.say (h:dE8 g s) (r:Rp):dE8 (g.say r) s:=⟨h.up,h.free,h.txn⟩
theorem dF0 (hl:g.sess.length=8) (hs:s<8) (t:Option Tx):(g.txn s t).at s=⟨t,(g.at s).waits⟩:=by
 show ((g.put s ⟨t,(g.at s).waits⟩)).at s=_
 rw[aH6 g s s _ AO,if_pos rfl]
theorem dE8.note (h:dE8 g s) (hl:g.sess.length=8) (hs:s<8) {rs:List Wr} (ht:(g.at s).txn=some ⟨g.synced,rs,[]⟩) (r:Rq):dE8 (aE8 g s ⟨g.synced,rs,[]⟩ r).1 s:=by
 unfold aE8
 by_cases h0:(aH7 ⟨g.synced,rs,[]⟩ (aG1 r).1).2=0
 ·rw[if_neg (by simpa using h0)]
  obtain⟨h1,h2⟩:=dE9 _ _ h0
  refine⟨h.up,by show ((g.txn s _).at s).waits=false;rw[dF0 hl hs];exact h.free,⟨_,by
   show ((g.txn s _).at s).txn=some ⟨g.synced,(aH7 ⟨g.synced,rs,[]⟩ (aG1 r).1).1.reads,[]⟩
   rw[dF0 hl hs]
   generalize aH7 ⟨g.synced,rs,[]⟩ (aG1 r).1=z at *
   obtain⟨⟨z1,z2,z3⟩,z4⟩:=z
   dsimp only at h1 h2
   subst h1 h2
   rfl⟩⟩
 ·rw[if_pos h0]
  exact h.say _
theorem dE8.work (h:dE8 g s) (hl:g.sess.length=8) (hs:s<8) {rs:List Wr} (ht:(g.at s).txn=some ⟨g.synced,rs,[]⟩) {r:Rq} (hr:r.kind=2∨r.kind=3):dE8 (aG8 g s ⟨g.synced,rs,[]⟩ r) s:=by
 have hn:=h.note hl hs ht r
 unfold aG8
 split
 ·unfold getE
  split
  ·exact hn
  ·refine dE8.say ?_ _
   split
   ·exact h
   ·exact hn
 ·rename_i h2
  rw[if_pos AO]
  unfold scanE
  split
  ·exact h.say _
  ·split
   ·exact hn
   ·exact hn.say _
theorem dE8.ask (h:dE8 g s) (hl:g.sess.length=8) (hs:s<8) {d:List UInt8} (hd:(aM2 d).2=0→(aM2 d).1.kind=2∨(aM2 d).1.kind=3∨(aM2 d).1.kind=8):dE8 (aS0 g s d) s:=by
 unfold aS0
 rw[if_neg (by rw[h.up];simp)]
 split
 ·exact h.say _
 ·rename_i h0
  have hk:=hd (by simpa using h0)
  generalize (aM2 d).1=r at *
  unfold aH3
  split
  ·exact h.say _
  ·rename_i h8
   obtain⟨rs,ht⟩:=h.txn
   rw[if_neg (by rw[h.free,ht];simp;omega),if_neg AO,if_neg AO,ht]
   have hkept:bS0 (g.synced:Int) ((some (⟨g.synced,rs,[]⟩:Tx)).getD zeroTx).start=true:=by
    show bS0 (g.synced:Int) (g.synced:Int)=true
    unfold bS0
    simp
   rw[if_neg (by rw[hkept];simp)]
   exact h.work hl hs ht AO
end
def dF1 (s:Nat) (a:Ac):Prop:=a.kind=1∧a.session=(s:Int)∧((aM2 a.data).2=0→(aM2 a.data).1.kind=2∨(aM2 a.data).1.kind=3∨(aM2 a.data).1.kind=8)
theorem dF2 {s:Nat} (hs:s<8) {a:Ac} (h:dF1 s a):Asky a:=⟨h.1,by rw[h.2.1];omega,by rw[h.2.1];omega,fun e=>by have:=h.2.2 e;omega⟩
theorem dF3 {s:Nat} (hs:s<8):∀ (m:List Ac) (g:Eng) (n:Nat),Inv g n→dE8 g s→(∀ a ∈ m,aB6 a=0∧dF1 s a)→dE8 (m.foldl doE g) s∧Inv (m.foldl doE g) (n+m.length)
 | [],_,_,hi,h,_=>⟨h,hi⟩
 | a :: m,g,n,hi,h,hm=>by
  obtain⟨h1,h2⟩:=hm a ZH2
  have h3:dE8 (doE g a) s:=by
   unfold doE
   rw[if_pos h2.1,h2.2.1,Int.toNat_natCast]
   exact h.ask hi.sess hs h2.2.2
  have:=dF3 hs m (doE g a) (n+1) (hi.act h1) h3 fun b hb=>hm b (by simp[hb])
  rw[List.foldl_cons,List.length_cons,show n+(m.length+1)=n+1+m.length by omega]
  exact this
theorem dF4 {g:Eng} {s:Nat} (h:dE8 g s) {d:List UInt8} (hd:aM2 d=(⟨6,[],[],[],[]⟩,0)):aS0 g s d=(g.txn s none).say (bC5 s g.synced):=by
 obtain⟨rs,ht⟩:=h.txn
 unfold aS0
 rw[if_neg (by rw[h.up];simp),hd,if_neg ZH2]
 unfold aH3
 dsimp only
 rw[if_neg ZD9,if_neg (by rw[h.free,ht];simp),if_neg ZD9,if_neg ZD9,ht]
 have hkept:bS0 (g.synced:Int) ((some (⟨g.synced,rs,[]⟩:Tx)).getD zeroTx).start=true:=by
  show bS0 (g.synced:Int) (g.synced:Int)=true
  unfold bS0
  simp
 rw[if_neg (by rw[hkept];simp)]
 unfold aG8
 dsimp only
 rw[if_neg ZD9,if_neg ZD9,if_pos rfl]
 unfold aG2
 rw[if_pos (by rfl)]
 rfl
theorem dF5 {g:Eng} {n s:Nat} (hs:s<8) (hi:Inv g n) (hw:Wt g) (hq:dE7 g) {d7 d1:List UInt8} (h7:aM2 d7=(⟨7,[],[],[],[]⟩,0)) (h1:aM2 d1=(⟨1,[],[],[],[]⟩,0)):dE8 (aS0 (aS0 { aV2 g with up:=true } s d7) s d1) s:=by
 have hi1:Inv (aV2 g) n:=hi.sync
 have hw1:(aV2 g).waiting=[]:=by
  unfold aV2
  split
  ·rename_i hu;exact hq hu
  ·rfl
 have hwt:Wt (aV2 g):=hw.act hi (a:=⟨2,0,0,[]⟩) sync_fine
 have hf:((aV2 g).at s).waits=false:=by
  cases h:((aV2 g).at s).waits with
  | false=>rfl
  | true=>have:=(hwt.iff s hs).1 h;rw[hw1] at this;cases this
 have hl1:=hi1.sess
 generalize aV2 g=x at *
 have hy:∃ y:Eng,aS0 { x with up:=true } s d7=y∧y.up=true∧y.sess.length=8∧y.at s=⟨none,false⟩:=by
  refine⟨_,rfl,?_⟩
  unfold aS0
  rw[if_neg ZH2,h7,if_neg ZH2]
  unfold aH3
  dsimp only
  rw[if_neg ZD9]
  have hat:(Eng.at { x with up:=true } s)=x.at s:=rfl
  split
  ·rename_i h
   rw[hat,hf] at h
   rcases h with h|h
   ·cases h
   ·refine⟨rfl,hl1,?_⟩
    show x.at s=_
    have:(x.at s).txn=none:=by
     cases e:(x.at s).txn with
     | none=>rfl
     | some t=>rw[e] at h;simp at h
    rw[← this,← hf]
  ·rw[if_neg ZD9,if_pos rfl]
   refine⟨rfl,?_,?_⟩
   ·show (x.sess.set s _).length=8
    simpa using hl1
   ·show (Eng.txn { x with up:=true } s none).at s=_
    rw[dF0 (g:={ x with up:=true }) hl1 hs,hat,hf]
 obtain⟨y,e,hu,hl,ha⟩:=hy
 rw[e]
 unfold aS0
 rw[if_neg (by rw[hu];simp),h1,if_neg ZH2]
 unfold aH3
 dsimp only
 rw[if_neg ZD9,if_neg (by rw[ha];simp),if_pos rfl]
 refine⟨hu,?_,⟨[],?_⟩⟩
 ·show ((y.txn s _).at s).waits=false
  rw[dF0 hl hs,ha]
 ·show ((y.txn s _).at s).txn=_
  rw[dF0 hl hs]
  rfl
def dF6 (d7 d1:List UInt8):List Ac:=[⟨2,0,0,[]⟩,⟨4,0,0,[]⟩,⟨1,((2:Nat):Int),0,d7⟩,⟨1,((2:Nat):Int),0,d1⟩]
theorem dF7 {xs:List Ac} (hx:∀ a ∈ xs,aB6 a=0) (hl:xs.length≤60) {d7 d1 d6:List UInt8} (h7:aM2 d7=(⟨7,[],[],[],[]⟩,0)) (h1:aM2 d1=(⟨1,[],[],[],[]⟩,0)) (h6:aM2 d6=(⟨6,[],[],[],[]⟩,0)) (f7:aB6 ⟨1,((2:Nat):Int),0,d7⟩=0) (f1:aB6 ⟨1,((2:Nat):Int),0,d1⟩=0) (f6:aB6 ⟨1,((2:Nat):Int),0,d6⟩=0) :
  ∃ (tn:Nat) (pd:Int) (fo:List Tn) (rl:List Rp),dA3 (xs++dF6 d7 d1) ⟨true,(tn:Int),pd,fo,rl⟩∧(∀ a ∈ xs++dF6 d7 d1,aB6 a=0)∧Hid (∀ ys:List Ac,(∀ a ∈ ys,aB6 a=0∧dF1 2 a)→ys.length≤20→∃ (p2:Int) (r:List Rp),dA3 (xs++dF6 d7 d1++ys++[(⟨1,((2:Nat):Int),0,d6⟩:Ac)]) ⟨true,(tn:Int),p2,fo,r⟩∧r.length≤100∧∃ k,r.length=k+1∧∀ h:k<r.length,r[k].code=0∧r[k].session=2∧r[k].turn=(tn:Int))∧fo.length≤8:=by
 have hf4:∀ a ∈ xs++dF6 d7 d1,aB6 a=0:=fun a ha=>by
  rcases List.mem_append.1 ha with h|h
  ·exact hx a h
  ·simp only[dF6,List.mem_cons,List.not_mem_nil,or_false] at h
   rcases h with rfl|rfl|rfl|rfl
   ·exact sync_fine
   ·exact start_fine
   ·exact f7
   ·exact f1
 have hi4:=cZ1 hf4
 have hr4:dE8 (bM (xs++dF6 d7 d1)) 2:=by
  rw[dA0]
  exact dF5 (s:=2) AO (cZ1 hx) (ran_wt hx) (quiet_acts xs eng0 0 (fun h=>by cases h) inv_zero hx) h7 h1
 have hl4:(xs++dF6 d7 d1).length≤64:=by rw[List.length_append];simp[dF6];omega
 generalize xs++dF6 d7 d1=zs at *
 refine⟨(bM zs).synced,((bM zs).waiting.length:Int),aS (bM zs).commits (bM zs).synced,(bM zs).replies,dA4 hf4 AO (by show (⟨(bM zs).up,_,_,_,_⟩:Oc)=_;rw[hr4.up];rfl),hf4,zh fun ys hy hyl=>?_,(bZ6 _ _).len⟩
 obtain⟨b1,b2,b3,b4,b5⟩:=asky_fold ys (bM zs) zs.length hi4 fun a ha=>⟨(hy a ha).1,dF2 AO (hy a ha).2⟩
 obtain⟨hr5,hi5⟩:=dF3 AO ys (bM zs) zs.length hi4 hr4 hy
 have e6:bM (zs++ys++[(⟨1,((2:Nat):Int),0,d6⟩:Ac)])=((ys.foldl doE (bM zs)).txn 2 none).say (bC5 2 (ys.foldl doE (bM zs)).synced):=by
  rw[dA0,dA0]
  show aS0 _ 2 d6=_
  exact dF4 hr5 h6
 have ht5:=hi5.told
 generalize ys.foldl doE (bM zs)=x at *
 refine⟨(x.waiting.length:Int),x.replies++[bC5 2 x.synced],dA4 (fun a ha=>?_) ZC8 (by rw[e6];show (⟨x.up,(x.synced:Int),(x.waiting.length:Int),aS x.commits x.synced,_⟩:Oc)=_;rw[hr5.up,b2,b3];rfl),by simp;omega,x.replies.length,by simp,fun h=>?_⟩
 ·rcases List.mem_append.1 ha with h|h
  ·rcases List.mem_append.1 h with h|h
   ·exact hf4 a h
   ·exact (hy a h).1
  ·rw[List.mem_singleton] at h;rw[h];exact f6
 ·rw[List.getElem_append_right zn]
  simp only[Nat.sub_self,List.getElem_cons_zero]
  exact⟨rfl,rfl,by rw[b2];rfl⟩
end Go.Proofs.YtodopbnhkkkcbaaGreatDoor
