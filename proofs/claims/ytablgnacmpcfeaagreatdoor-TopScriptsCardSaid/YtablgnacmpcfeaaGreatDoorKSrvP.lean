/- SrvP: The server in plain words: its state, and what each act makes of it. No program. What was written to the tape is recovered from it, up to a break: plain words, no program. What stays true of the server's state, whatever it is asked: plain words, no program. What acts do to the server's state: plain words, no program. A request is decoded as it was encoded: plain words, no program. Scripts of raw numbers, in plain words: no program. The server's memory: words for the engine, and what a change of it leaves as it was. The server's methods: what each call keeps. Walks: the server's reply, told. Walk: the server's note. The conditions of each are in its words. -/
import Derived.Test.YtablgnacmpcfeaaGreatDoorKCommit
import Derived.Test.YtablgnacmpcfeaaGreatDoorKLook
import Derived.Test.YtablgnacmpcfeaaGreatDoorKTxnW
import Derived.Test.YtablgnacmpcfeaaGreatDoorKClashK
import Derived.Test.YtablgnacmpcfeaaGreatDoorKTapeR
import Derived.Test.YtablgnacmpcfeaaGreatDoorKTapeK
import Derived.Test.YtablgnacmpcfeaaGreatDoorKWireR
import Derived.Test.YtablgnacmpcfeaaGreatDoorKFPv
import Derived.Test.YtablgnacmpcfeaaGreatDoorKRootR
import Derived.Test.YtablgnacmpcfeaaGreatDoorKActK
import Derived.Test.YtablgnacmpcfeaaGreatDoorKWireEnc
namespace Go.Proofs.YtablgnacmpcfeaaGreatDoor
open Go.RowKit
set_option linter.unusedVariables false
set_option linter.unusedSimpArgs false
set_option maxRecDepth 100000
set_option maxHeartbeats 8000000
structure Rp where
 session:Int
 code:Int
 turn:Int
 found:Bool
 value:List UInt8
 pairs:List Pr
 root:List UInt8
 outer:Pf
 inner:Pf
def rp0:Rp:=⟨0,0,0,false,[],[],[],pf0,pf0⟩
structure Ss where
 txn:Option Tx
 waits:Bool
def ss0:Ss:=⟨none,false⟩
structure Eng where
 up:Bool
 tape:Tp
 commits:List Cm
 synced:Nat
 sess:List Ss
 waiting:List Nat
 replies:List Rp
def eng0:Eng:=⟨true,([],0),[],0,List.replicate 8 ss0,[],[]⟩
def Eng.at (g:Eng) (s:Nat):Ss:=g.sess.getD s ss0
def Eng.put (g:Eng) (s:Nat) (x:Ss):Eng:={ g with sess:=g.sess.set s x }
def Eng.txn (g:Eng) (s:Nat) (t:Option Tx):Eng:=g.put s ⟨t,(g.at s).waits⟩
def Eng.say (g:Eng) (r:Rp):Eng:={ g with replies:=g.replies++[r] }
def aE4 (s:Nat) (e:Int):Rp:={ rp0 with session:=s,code:=e }
def bC5 (s:Nat) (t:Int):Rp:={ rp0 with session:=s,turn:=t }
def Eng.now (g:Eng):List Tn:=aS g.commits g.synced
def bS1 (g:Eng) (s:Nat) (r:Rq):Rp :=
 {session:=s,code:=0,turn:=g.synced,found:=(aA7 g.now r.name r.key).1.1,value:=(aA7 g.now r.name r.key).1.2,pairs:=[],root:=(aJ6 g.now).1,outer:=(fpS g.now r.name r.key).1.1,inner:=(fpS g.now r.name r.key).1.2 }
def aE8 (g:Eng) (s:Nat) (t:Tx) (r:Rq):Eng × Bool :=
 if (aH7 t (aG1 r).1).2≠0 then (g.say (aE4 s (aH7 t (aG1 r).1).2),false) else (g.txn s (some (aH7 t (aG1 r).1).1),true)
def Eng.next (g:Eng) (t:Tx):Cm:=(((g.commits.length+1:Nat):Int),t.writes)
def aG2 (g:Eng) (s:Nat) (t:Tx):Eng :=
 if t.writes.length=0 then (g.txn s none).say (bC5 s t.start)
 else if (g.commits.length:Int) - g.synced=6∨g.commits.length=300 then g.say (aE4 s 11)
 else if (aZ1 t g.commits).1=true then (g.txn s none).say (aE4 s 9)
 else if (aC4 (aS g.commits g.commits.length) t.writes).2≠0 then (g.txn s none).say (aE4 s (aC4 (aS g.commits g.commits.length) t.writes).2)
 else if (aE1 g.tape (g.next t)).2≠0 then (g.txn s none).say (aE4 s (aE1 g.tape (g.next t)).2)
 else { g.put s ⟨none,true⟩ with tape:=(aE1 g.tape (g.next t)).1,commits:=g.commits++[g.next t],waiting:=g.waiting++[s] }
def getE (g:Eng) (s:Nat) (t:Tx) (r:Rq):Eng :=
 if (aS6 (aS g.commits t.start.toNat) t r.name r.key).1.2=false∧(aE8 g s t r).2=false then (aE8 g s t r).1
 else (if (aS6 (aS g.commits t.start.toNat) t r.name r.key).1.2=true then g else (aE8 g s t r).1).say { rp0 with session:=s,turn:=t.start,found:=(aS6 (aS g.commits t.start.toNat) t r.name r.key).1.1.1,value:=(aS6 (aS g.commits t.start.toNat) t r.name r.key).1.1.2 }
def scanE (g:Eng) (s:Nat) (t:Tx) (r:Rq):Eng :=
 if (aU6 (aS g.commits t.start.toNat) t r.name r.key r.last).2≠0 then g.say (aE4 s (aU6 (aS g.commits t.start.toNat) t r.name r.key r.last).2)
 else if (aE8 g s t r).2=false then (aE8 g s t r).1
 else (aE8 g s t r).1.say { rp0 with session:=s,turn:=t.start,pairs:=(aU6 (aS g.commits t.start.toNat) t r.name r.key r.last).1 }
def cB4 (g:Eng) (s:Nat) (t:Tx) (r:Rq):Eng :=
 if (aD0 t (aF9 r).1).2=0 then (g.txn s (some (aD0 t (aF9 r).1).1)).say (aE4 s 0) else g.say (aE4 s (aD0 t (aF9 r).1).2)
def aG8 (g:Eng) (s:Nat) (t:Tx) (r:Rq):Eng :=
 if r.kind=2 then getE g s t r else if r.kind=3 then scanE g s t r else if r.kind=6 then aG2 g s t else cB4 g s t r
def aH3 (g:Eng) (s:Nat) (r:Rq):Eng :=
 if r.kind=8 then g.say (bS1 g s r)
 else if (g.at s).waits=true∨(g.at s).txn.isSome=decide (r.kind=1) then g.say (aE4 s 6)
 else if r.kind=1 then (g.txn s (some ⟨g.synced,[],[]⟩)).say (bC5 s g.synced)
 else if r.kind=7 then (g.txn s none).say (aE4 s 0)
 else if bS0 g.synced ((g.at s).txn.getD zeroTx).start=false then (g.txn s none).say (aE4 s 10)
 else aG8 g s ((g.at s).txn.getD zeroTx) r
def aS0 (g:Eng) (s:Nat) (data:List UInt8):Eng :=
 if g.up=false then g.say (aE4 s 13) else if (aM2 data).2≠0 then g.say (aE4 s (aM2 data).2) else aH3 g s (aM2 data).1
def aC1 (g:Eng) (s:Nat):Eng:=({ g.put s ⟨(g.at s).txn,false⟩ with synced:=g.synced+1 }).say (bC5 s ((g.synced+1:Nat):Int))
def aV2 (g:Eng):Eng :=
 if g.up=false then g else { g.waiting.foldl aC1 { g with tape:=if aR5 g.tape then (g.tape.1,(g.tape.1.length:Int)) else ([],0) } with waiting:=[] }
def aS1 (g:Eng) (keep:Int):Eng :=
 if g.up=false then g else
  {up:=false,tape:=(bQ6 (aL4 g.tape keep).1).1.2,commits:=(bQ6 (aL4 g.tape keep).1).1.1,synced:=(bQ6 (aL4 g.tape keep).1).1.1.length,sess:=List.replicate 8 ss0,waiting:=[],replies:=g.replies }
structure Ac where
 kind:Int
 session:Int
 keep:Int
 data:List UInt8
def doE (g:Eng) (a:Ac):Eng :=
 if a.kind=1 then aS0 g a.session.toNat a.data else if a.kind=2 then aV2 g else if a.kind=3 then aS1 g a.keep else { g with up:=true }
def aB6 (a:Ac):Int:=aB1 a.kind a.session a.keep a.data.length
def bM (l:List Ac):Eng:=l.foldl doE eng0
structure Oc where
 up:Bool
 turn:Int
 pending:Int
 forest:List Tn
 replies:List Rp
def oc0:Oc:=⟨false,0,0,[],[]⟩
def Eng.out (g:Eng):Oc:=⟨g.up,g.synced,g.waiting.length,g.now,g.replies⟩
def firstFault:List Ac→Int
 | []=>0
 | a :: l=>if aB6 a≠0 then aB6 a else firstFault l
def bS2 (l:List Ac):Oc × Int :=
 if 100000<l.length then (oc0,1) else if firstFault l≠0 then (oc0,firstFault l) else ((bM l).out,0)
theorem aS9 {n:Nat} (h:n<256):(UInt8.ofNat n).toNat=n:=by simp;omega
theorem bS3 (a r:List UInt8) (h:a.length<256):aZ (lpS a++r,false)=(a,(r,false)):=by
 unfold aZ lpS
 rw[List.cons_append,aF8,aS9 h]
 dsimp only
 rw[bQ4 ZH2]
 simp
theorem cN8 (x:Wr) (r:List UInt8) (h:aH x=0):aL5 ((if x.flag=true then [255] else lpS x.value)++r,false)=((x.flag,x.value),(r,false)):=by
 have hv:=(cA2 h).2.2
 cases hf:x.flag with
 | true =>
  have hv0:x.value=[]:=by
   unfold aH at h
   by_cases h1:aI x.name=0
   ·rw[if_neg ZE3,if_pos hf] at h
    split at h
    ·rename_i hk;exact absurd h hk
    ·split at h
     ·cases h
     ·exact List.eq_nil_of_length_eq_zero AO
   ·rw[if_pos h1] at h
    exact absurd h h1
  rw[if_pos rfl,hv0]
  unfold aL5
  rw[List.cons_append,List.nil_append,aF8]
  rfl
 | false =>
  rw[if_neg ZH2]
  unfold aL5 lpS
  rw[List.cons_append,aF8,aS9 AO]
  dsimp only
  rw[if_neg AO,bQ4 ZH2]
  simp
theorem wr_back (x:Wr) (r:List UInt8) (h:aH x=0):wrS (aI6 x++r,false)=(x,(r,false)):=by
 obtain⟨h1,h2,h3⟩:=cA2 h
 unfold wrS aI6
 rw[List.append_assoc,bS3 _ _ AO]
 dsimp only
 rw[List.append_assoc,bS3 _ _ AO]
 dsimp only
 rw[cN8 x r h]
theorem wrs_back (ws:List Wr) (r:List UInt8) (h:∀ i (hi:i<ws.length),aH ws[i]=0):∀ n,n≤ws.length→aN4 ((ws.map aI6).flatten++r,false) n=(ws.take n,(((ws.drop n).map aI6).flatten++r,false)):=by
 intro n
 induction n with
 | zero=>intro _;simp[aN4]
 | succ n ih =>
  intro hn
  have h1:=ih AO
  have h2:ws.drop n=ws[n]'(by omega) :: ws.drop (n+1):=List.drop_eq_getElem_cons AO
  unfold aN4
  rw[h1,h2]
  dsimp only
  rw[List.map_cons,List.flatten_cons,List.append_assoc,wr_back _ _ (h n AO)]
  dsimp only
  rw[aC8 ws n AO]
theorem cV6 {c:Cm} (h:1≤c.1∧c.1≤1048576):((65536*(UInt8.ofNat (c.1.toNat / 65536)).toNat+256*(UInt8.ofNat (c.1.toNat / 256)).toNat+(UInt8.ofNat c.1.toNat).toNat:Nat):Int)=c.1:=by
 have e1:(UInt8.ofNat (c.1.toNat / 65536)).toNat=c.1.toNat / 65536 % 256:=by simp
 have e2:(UInt8.ofNat (c.1.toNat / 256)).toNat=c.1.toNat / 256 % 256:=by simp
 have e3:(UInt8.ofNat c.1.toNat).toNat=c.1.toNat % 256:=by simp
 rw[e1,e2,e3]
 omega
theorem dec_enc {c:Cm} (h:aA2 c=0):aT7 (aM5 c).1=(c,0):=by
 obtain⟨h1,h2,h3⟩:=bF3 h
 have hl:=bH5 h c.2.length zn
 have he:(aM5 c).1=aO8 c c.2.length:=by unfold aM5;rw[if_neg ZF9]
 rw[he]
 have e1:aO8 c c.2.length=UInt8.ofNat (c.1.toNat / 65536) :: UInt8.ofNat (c.1.toNat / 256) :: UInt8.ofNat c.1.toNat :: UInt8.ofNat c.2.length :: (c.2.map aI6).flatten:=by
  unfold aO8 bJ6
  rw[List.take_length]
  rfl
 obtain⟨g1,g2,g3⟩:=cU6 (x:=UInt8.ofNat (c.1.toNat / 65536)) (y:=UInt8.ofNat (c.1.toNat / 256)) (z:=UInt8.ofNat c.1.toNat) (t:=UInt8.ofNat c.2.length) (r:=(c.2.map aI6).flatten)
 rw[← e1] at g1 g2 g3
 rw[aS9 AO] at g3
 have hw:aN4 (aH5 (aO8 c c.2.length)) (aL6 (aO8 c c.2.length))=(c.2,([],false)):=by
  rw[g1,g3]
  have:=wrs_back c.2 [] h3 c.2.length zn
  rw[List.append_nil,List.take_length,List.drop_length] at this
  simpa using this
 have hc:cmS (aO8 c c.2.length)=c:=by
  unfold cmS
  rw[hw,g2,cV6 h1]
 unfold aT7
 rw[if_neg AO,hw,hc]
 dsimp only
 rw[if_neg ZH2,if_neg ZH2,if_neg ZF9]
def aG0 (c:Cm):List UInt8:=aN2 (aM5 c).1
def aR (l:List Cm):List UInt8:=(l.map aG0).flatten
theorem bU3 (l:List Cm) (c:Cm):aR (l++[c])=aR l++aG0 c:=by simp[aR]
theorem aO3 (l:List Cm) (c:Cm):aR (c :: l)=aG0 c++aR l:=by simp[aR]
theorem cN9 {c:Cm} (h:aA2 c=0) (r:List UInt8):frameF (aG0 c++r)=some (c,(aG0 c).length):=by
 have hs:=bB1 (c:=c) (by unfold aM5;rw[if_neg ZF9])
 have hd:=dec_enc h
 have hfl:=bB0 (aM5 c).1
 unfold aG0
 generalize (aM5 c).1=b at *
 have hn:256*(UInt8.ofNat (b.length / 256)).toNat+(UInt8.ofNat b.length).toNat=b.length:=by
  have e2:(UInt8.ofNat (b.length / 256)).toNat=b.length / 256 % 256:=by simp
  have e3:(UInt8.ofNat b.length).toNat=b.length % 256:=by simp
  rw[e2,e3];omega
 have hdl:(aL2 (aP5 b)).length=32:=aO2 _
 have e1:aN2 b++r=UInt8.ofNat (b.length / 256) :: UInt8.ofNat b.length :: (b++((aL2 (aP5 b)).take 4++r)):=by
  unfold aN2
  rw[List.append_assoc]
  rfl
 have t1:(b++((aL2 (aP5 b)).take 4++r)).take b.length=b:=by simp
 have t2:((b++((aL2 (aP5 b)).take 4++r)).drop b.length).take 4=(aL2 (aP5 b)).take 4:=by
  rw[List.drop_left]
  rw[List.take_append_of_le_length ZF6,List.take_take]
  rfl
 rw[e1,bQ7]
 ·rw[hn,t1,hd]
  dsimp only
  rw[hfl]
 ·rw[hn]
  simp only[List.length_append,List.length_take]
  omega
 ·rw[hn,t1,t2]
  rfl
 ·rw[hn,t1,hd]
theorem cO0 {c:Cm} (h:aA2 c=0):6≤(aG0 c).length∧(aG0 c).length≤606:=by
 have hs:=bB1 (c:=c) (by unfold aM5;rw[if_neg ZF9])
 unfold aG0
 rw[bB0]
 omega
theorem cV7 {c:Cm} (h:aA2 c=0) {n:Nat} (hn:n<(aG0 c).length):frameF ((aG0 c).take n)=none:=by
 have hs:=bB1 (c:=c) (by unfold aM5;rw[if_neg ZF9])
 have hfl:=bB0 (aM5 c).1
 unfold aG0 at hn ⊢
 generalize (aM5 c).1=b at *
 rcases (by omega:n<2∨2≤n) with h2|h2
 ·exact bJ8 ZF6
 ·have hv:256*(UInt8.ofNat (b.length / 256)).toNat+(UInt8.ofNat b.length).toNat=b.length:=by
   have e2:(UInt8.ofNat (b.length / 256)).toNat=b.length / 256 % 256:=by simp
   have e3:(UInt8.ofNat b.length).toNat=b.length % 256:=by simp
   rw[e2,e3];omega
  have e1:(aN2 b).take n=UInt8.ofNat (b.length / 256) :: UInt8.ofNat b.length :: (b++(aL2 (aP5 b)).take 4).take (n - 2):=by
   obtain⟨k,rfl⟩:∃ k,n=k+2:=⟨n - 2,AO⟩
   rfl
  rw[e1]
  refine bD7 (.inr ?_)
  rw[hv,List.length_take,List.length_append,List.length_take]
  omega
def bG0 (start:Nat) (l:List Cm):Prop:=∀ i (h:i<l.length),aA2 l[i]=0∧l[i].1=((start+i:Nat):Int)
theorem bG0.tail {s:Nat} {c:Cm} {l:List Cm} (h:bG0 s (c :: l)):bG0 (s+1) l:=fun i hi=>by
 have:=h (i+1) (by simpa using hi)
 simpa [Nat.add_assoc,Nat.add_comm 1 i] using this
theorem bG0.take {s:Nat} {l:List Cm} (h:bG0 s l) (n:Nat):bG0 s (l.take n):=fun i hi=>by
 have h':=h i (by rw[List.length_take] at hi;omega)
 rw[List.getElem_take]
 exact h'
theorem recF_frames:∀ (l:List Cm) (s n k:Nat),bG0 s l→((aR l).take n).length≤k→∃ j,j≤l.length∧recF k ((aR l).take n) s=(l.take j,(aR (l.take j)).length)∧(aR (l.take j)).length≤n∧(j=l.length∨n<(aR (l.take (j+1))).length)
 | [],s,n,k,_,_=>⟨0,zn,by rw[show (aR []).take n=[] by simp[aR]];exact aN6 rfl,by simp[aR],.inl rfl⟩
 | c :: l,s,n,k,ht,hk=>by
  have h0:=ht 0 ZH2
  obtain⟨hc,hturn⟩:=h0
  have hc':aA2 c=0:=hc
  have hl:=cO0 hc'
  rw[aO3] at hk ⊢
  rcases Nat.lt_or_ge n (aG0 c).length with hn|hn
  ·refine⟨0,Nat.zero_le _,?_,by simp[aR],.inr (by simpa [aR] using hn)⟩
   rw[List.take_append_of_le_length AO]
   exact aN6 (cV7 hc' hn)
  ·have e1:(aG0 c++aR l).take n=aG0 c++(aR l).take (n - (aG0 c).length):=by
    rw[List.take_append,List.take_of_length_le AO]
   rw[e1] at hk ⊢
   rw[List.length_append] at hk
   obtain⟨k',rfl⟩:∃ k',k=k'+1:=⟨k - 1,AO⟩
   obtain⟨j,j1,j2,j3,j4⟩:=recF_frames l (s+1) (n - (aG0 c).length) k' ht.tail AO
   refine⟨j+1,by simpa using j1,?_,?_,?_⟩
   ·rw[bX1 (cN9 hc' _) (by simpa using hturn),List.drop_left,j2]
    rw[List.take_succ_cons,aO3,List.length_append]
   ·rw[List.take_succ_cons,aO3,List.length_append];omega
   ·rcases j4 with j4|j4
    ·exact .inl (by simp[j4])
    ·refine .inr ?_
     rw[List.take_succ_cons,aO3,List.length_append];omega
theorem aT8 (l:List Cm):∀ {i j:Nat},i≤j→(aR (l.take i)).length≤(aR (l.take j)).length:=by
 intro i j hij
 have:l.take i=(l.take j).take i:=by rw[List.take_take,Nat.min_eq_left hij]
 rw[this]
 generalize l.take j=m
 have e:aR m=aR (m.take i)++aR (m.drop i):=by
  unfold aR
  rw[← List.flatten_append,← List.map_append,List.take_append_drop]
 rw[e,List.length_append]
 omega
theorem cB5 (l:List Cm) (i:Nat):(aR l).take (aR (l.take i)).length=aR (l.take i):=by
 have e:aR l=aR (l.take i)++aR (l.drop i):=by
  unfold aR
  rw[← List.flatten_append,← List.map_append,List.take_append_drop]
 rw[e]
 simp
structure bK0 (t:Tp) (l:List Cm) (synced:Nat):Prop where
 turns:bG0 1 l
 data:t.1=aR l
 safe:t.2=((aR (l.take synced)).length:Int)
 few:synced≤l.length
 big:t.1.length≤200000
theorem bK0.may {t:Tp} {l:List Cm} {n:Nat} (h:bK0 t l n):aR5 t=true:=by
 have h1:=aT8 l h.few
 rw[List.take_length,← h.data] at h1
 have h2:=h.safe
 have h3:=h.big
 exact (aH8 t).2 ⟨AO,AO,h3⟩
theorem bH8 {t:Tp} {l:List Cm} {n:Nat} (h:bK0 t l n) {keep:Int} (hk:0≤keep):∃ j,n≤j∧j≤l.length∧bQ6 (aL4 t keep).1=((l.take j,(aR (l.take j),((aR (l.take j)).length:Int))),0):=by
 have hm:=h.may
 obtain⟨m0,m1,m2⟩:=(aH8 t).1 hm
 obtain⟨q,hq,hq1,hq2⟩:∃ q,(aL4 t keep).1=(t.1.take q,(q:Int))∧q≤t.1.length∧t.2≤(q:Int):=by
  refine⟨aZ5 t keep,?_,?_,?_⟩
  ·unfold aL4;rw[if_pos hm,if_neg AO]
  ·unfold aZ5;split <;> omega
  ·unfold aZ5;split <;> omega
 have hcm:aR5 (t.1.take q,(q:Int))=true:=(aH8 _).2 ⟨AO,by simp only[List.length_take];omega,by simp only[List.length_take];omega⟩
 obtain⟨j,j1,j2,j3,j4⟩:=recF_frames l 1 q ((aR l).take q).length h.turns zn
 rw[← h.data] at j2
 refine⟨j,?_,j1,?_⟩
 ·rcases j4 with j4|j4
  ·rw[j4];exact h.few
  ·rcases Nat.lt_or_ge j n with hlt|hge
   ·exfalso
    have:=aT8 l (i:=j+1) (j:=n) hlt
    have:=h.safe
    omega
   ·exact hge
 ·rw[hq]
  unfold bQ6
  rw[if_neg (by simp[hcm])]
  dsimp only
  rw[j2]
  dsimp only
  rw[List.take_take,Nat.min_eq_left j3,h.data,cB5,show min (q:Int) ((aR (l.take j)).length:Int)=((aR (l.take j)).length:Int) by omega]
def Good (fault:Wr→Int) (same:Wr→Wr→Bool) (l:List Wr):Prop:=∀ i (h:i<l.length),fault l[i]=0∧∀ j (hj:j<i),same (l[j]'(by omega)) l[i]=false
theorem bG1 {fault:Wr→Int} {same:Wr→Wr→Bool} {l:List Wr}:aB0 (aL0 fault same l) l.length 0=0↔Good fault same l:=by
 have key:∀ i (h:i<l.length),aL0 fault same l i=0↔(fault l[i]=0∧∀ j (hj:j<i),same (l[j]'(by omega)) l[i]=false):=by
  intro i h
  rw[aW4 fault same h]
  unfold bV6
  by_cases hf:fault l[i]=0
  ·rw[if_neg (by simpa using hf)]
   by_cases ha:(l.take i).any (fun y=>same y l[i])=true
   ·rw[if_pos ha]
    refine⟨fun h=>(by cases h),fun h2=>?_⟩
    rw[List.any_eq_true] at ha
    obtain⟨x,hx,hs⟩:=ha
    obtain⟨j,hj,rfl⟩:=List.mem_iff_getElem.1 hx
    rw[List.length_take] at hj
    rw[List.getElem_take] at hs
    have:=h2.2 j AO
    rw[this] at hs
    cases hs
   ·rw[if_neg ha]
    refine⟨fun _=>⟨hf,fun j hj=>?_⟩,fun _=>rfl⟩
    have ha':(l.take i).any (fun y=>same y l[i])=false:=by simpa using ha
    rw[List.any_eq_false] at ha'
    have:=ha' (l[j]'(by omega)) (List.mem_take_iff_getElem.2 ⟨j,AO,rfl⟩)
    simpa using this
  ·rw[if_pos hf]
   exact⟨fun h=>absurd h hf,fun h=>absurd h.1 hf⟩
 constructor
 ·intro h i hi
  have:=aI0 _ _ h i hi
  rw[Nat.zero_add] at this
  exact (key i hi).1 this
 ·intro h
  refine aN9 _ _ fun i hi=>?_
  rw[Nat.zero_add]
  exact (key i hi).2 (h i hi)
theorem bX8 {fault:Wr→Int} {same:Wr→Wr→Bool} {l:List Wr} {r:Wr} (h:Good fault same l) (hr:fault r=0) (ha:l.any (fun x=>same x r)=false):Good fault same (l++[r]):=by
 intro i hi
 by_cases hl:i<l.length
 ·rw[List.getElem_append_left hl]
  refine⟨(h i hl).1,fun j hj=>?_⟩
  rw[List.getElem_append_left AO]
  exact (h i hl).2 j hj
 ·obtain rfl:i=l.length:=by rw[List.length_append,List.length_singleton] at hi;omega
  rw[List.getElem_append_right zn]
  simp only[Nat.sub_self,List.getElem_cons_zero]
  refine⟨hr,fun j hj=>?_⟩
  rw[List.getElem_append_left hj]
  rw[List.any_eq_false] at ha
  simpa using ha _ (List.getElem_mem hj)
theorem aQ4 {t:Tx}:aN t=0↔(0≤t.start∧t.start≤1048576)∧t.reads.length≤20∧t.writes.length≤10∧Good aA4 aC7 t.reads∧Good aH bE t.writes:=by
 unfold aN
 by_cases h1:0≤t.start∧t.start≤1048576
 ·rw[if_neg ZE3]
  by_cases h2:20<t.reads.length∨10<t.writes.length
  ·rw[if_pos h2]
   exact⟨fun h=>(by cases h),fun h=>by omega⟩
  ·rw[if_neg h2]
   by_cases h3:aJ1 t.reads=0
   ·rw[if_neg (by simpa using h3)]
    exact⟨fun h=>⟨h1,AO,by omega,bG1.1 h3,bG1.1 h⟩,fun h=>bG1.2 h.2.2.2.2⟩
   ·rw[if_pos h3]
    exact⟨fun h=>absurd h h3,fun h=>absurd (bG1.2 h.2.2.2.1) h3⟩
 ·rw[if_pos h1]
  exact⟨fun h=>(by cases h),fun h=>absurd h.1 h1⟩
theorem bH9 {t:Tx} {r:Wr} (h:(aH7 t r).2=0):aN (aH7 t r).1=0∧(aH7 t r).1.start=t.start∧aN t=0:=by
 unfold aH7 at h ⊢
 by_cases h1:aN t=0
 ·rw[if_neg ZE3] at h ⊢
  by_cases h2:aA4 r=0
  ·rw[if_neg (by simpa using h2)] at h ⊢
   by_cases h3:t.reads.any (fun x=>aC7 x r)=true
   ·rw[if_pos h3]
    exact⟨h1,rfl,h1⟩
   ·rw[if_neg h3] at h ⊢
    by_cases h4:t.reads.length=20
    ·rw[if_pos h4] at h
     cases h
    ·rw[if_neg h4]
     obtain⟨a1,a2,a3,a4,a5⟩:=aQ4.1 h1
     refine⟨aQ4.2 ⟨a1,by simp;omega,a3,bX8 a4 h2 (by simpa using h3),a5⟩,rfl,h1⟩
  ·rw[if_pos h2] at h
   exact absurd h h2
 ·rw[if_pos h1] at h
  exact absurd h h1
theorem cH7 {a b c:Wr} (h1:bE a b=true) (h2:bE a c=false):bE b c=false:=by
 unfold bE at h1 h2 ⊢
 simp only[Bool.and_eq_true,beq_iff_eq] at h1
 rw[h1.1,h1.2] at h2
 exact h2
theorem good_set {l:List Wr} {r:Wr} (h:Good aH bE l) (hr:aH r=0) (ha:l.any (fun x=>bE x r)=true):Good aH bE (l.set (aY7 (fun x=>bE x r) l).toNat r):=by
 have hf:∃ k,k<l.length∧(aY7 (fun x=>bE x r) l).toNat=k∧(∀ hk:k<l.length,bE l[k] r=true)∧∀ j (hj:j<k),∀ hl:j<l.length,bE l[j] r=false:=by
  unfold aY7
  cases hf:l.findIdx? (fun x=>bE x r) with
  | none =>
   rw[List.findIdx?_eq_none_iff] at hf
   rw[List.any_eq_true] at ha
   obtain⟨x,hx,hs⟩:=ha
   have:=hf x hx
   rw[this] at hs
   cases hs
  | some k =>
   rw[List.findIdx?_eq_some_iff_getElem] at hf
   obtain⟨h1,h2,h3⟩:=hf
   exact⟨k,h1,rfl,fun _=>h2,fun j hj hl=>by simpa using h3 j hj⟩
 obtain⟨k,hk,he,hq,hlow⟩:=hf
 rw[he]
 intro i hi
 rw[List.length_set] at hi
 by_cases hik:k=i
 ·subst hik
  rw[List.getElem_set_self]
  refine⟨hr,fun j hj=>?_⟩
  rw[List.getElem_set_ne AO]
  exact hlow j hj AO
 ·rw[List.getElem_set_ne hik]
  refine⟨(h i hi).1,fun j hj=>?_⟩
  by_cases hjk:k=j
  ·subst hjk
   rw[List.getElem_set_self]
   exact cH7 (hq hk) ((h i hi).2 k hj)
  ·rw[List.getElem_set_ne hjk]
   exact (h i hi).2 j hj
theorem bS4 {t:Tx} {r:Wr} (h:(aD0 t r).2=0):aN (aD0 t r).1=0∧(aD0 t r).1.start=t.start∧aN t=0:=by
 unfold aD0 at h ⊢
 by_cases h1:aN t=0
 ·rw[if_neg ZE3] at h ⊢
  by_cases h2:aH r=0
  ·rw[if_neg (by simpa using h2)] at h ⊢
   obtain⟨a1,a2,a3,a4,a5⟩:=aQ4.1 h1
   by_cases h3:t.writes.any (fun x=>bE x r)=true
   ·rw[if_pos h3]
    exact⟨aQ4.2 ⟨a1,a2,by simpa using a3,a4,good_set a5 h2 h3⟩,rfl,h1⟩
   ·rw[if_neg h3] at h ⊢
    by_cases h4:t.writes.length=10
    ·rw[if_pos h4] at h
     cases h
    ·rw[if_neg h4]
     exact⟨aQ4.2 ⟨a1,a2,by simp;omega,a4,bX8 a5 h2 (by simpa using h3)⟩,rfl,h1⟩
  ·rw[if_pos h2] at h
   exact absurd h h2
 ·rw[if_pos h1] at h
  exact absurd h h1
structure Inv (g:Eng) (n:Nat):Prop where
 sess:g.sess.length=8
 holds:bK0 g.tape g.commits g.synced
 many:g.commits.length≤300
 wait:g.waiting.length+g.synced=g.commits.length
 who:∀ s ∈ g.waiting,s<8
 txn:∀ s t,(g.at s).txn=some t→aN t=0∧t.start≤(g.synced:Int)
 told:g.replies.length+g.waiting.length≤n
theorem cO1 (s:Nat):(List.replicate 8 ss0).getD s ss0=ss0:=by
 rw[List.getD_eq_getElem?_getD,List.getElem?_replicate]
 split <;> rfl
theorem inv_zero:Inv eng0 0 :=
 {sess:=rfl
  holds:=⟨fun i h=>by simp[eng0] at h,rfl,rfl,zn,by simp[eng0]⟩
  many:=by simp[eng0]
  wait:=rfl
  who:=fun s h=>by simp[eng0] at h
  txn:=fun s t h=>by
   have:(eng0.at s)=ss0:=cO1 s
   rw[this] at h
   cases h
  told:=zn }
section
variable {g : Eng} {n : Nat}
theorem Inv.mono (h:Inv g n) {k:Nat} (hk:n≤k):Inv g k:={ h with told:=Nat.le_trans h.told hk }
theorem Inv.say (h:Inv g n) (r:Rp):Inv (g.say r) (n+1) :=
 {sess:=h.sess,holds:=h.holds,many:=h.many,wait:=h.wait,who:=h.who,txn:=h.txn,told:=by have:=h.told;show (g.replies++[r]).length+g.waiting.length≤n+1;simp;omega }
theorem aH6 (g:Eng) (s k:Nat) (x:Ss) (hs:s<g.sess.length):(g.put s x).at k=if k=s then x else g.at k:=by
 unfold Eng.at Eng.put
 simp only[List.getD_eq_getElem?_getD,List.getElem?_set]
 by_cases h:s=k
 ·subst h
  simp[hs]
 ·rw[if_neg h,if_neg (fun e=>h e.symm)]
theorem Inv.put (h:Inv g n) {s:Nat} (hs:s<8) (x:Ss) (hx:∀ t,x.txn=some t→aN t=0∧t.start≤(g.synced:Int)):Inv (g.put s x) n :=
 {sess:=by show (g.sess.set s x).length=8;simpa using h.sess
  holds:=h.holds,many:=h.many,wait:=h.wait,who:=h.who
  txn:=fun k t hk=>by
   rw[aH6 g s k x (by rw[h.sess];exact hs)] at hk
   by_cases e:k=s
   ·rw[if_pos e] at hk;exact hx t hk
   ·rw[if_neg e] at hk;exact h.txn k t hk
  told:=h.told }
theorem Inv.setTxn (h:Inv g n) {s:Nat} (hs:s<8) (t:Option Tx) (hx:∀ x,t=some x→aN x=0∧x.start≤(g.synced:Int)):Inv (g.txn s t) n:=h.put hs _ hx
theorem Inv.drop (h:Inv g n) {s:Nat} (hs:s<8):Inv (g.txn s none) n:=h.setTxn hs none fun _ e=>by cases e
theorem Inv.note (h:Inv g n) {s:Nat} (hs:s<8) {t:Tx} (ht:t.start≤(g.synced:Int)) (r:Rq):((aE8 g s t r).2=false→Inv (aE8 g s t r).1 (n+1))∧((aE8 g s t r).2=true→Inv (aE8 g s t r).1 n):=by
 unfold aE8
 by_cases h1:(aH7 t (aG1 r).1).2=0
 ·rw[if_neg ZE3]
  obtain⟨h2,h3,_⟩:=bH9 h1
  exact⟨fun e=>(by cases e),fun _=>h.setTxn hs _ fun x e=>(by cases e;exact⟨h2,by rw[h3];exact ht⟩)⟩
 ·rw[if_pos h1]
  exact⟨fun _=>h.say _,fun e=>by cases e⟩
theorem cB6 {t:Tp} {c:Cm} (h:(aE1 t c).2=0):aA2 c=0∧(aE1 t c).1=(t.1++aG0 c,t.2)∧(t.1++aG0 c).length≤200000:=by
 unfold aE1 at h ⊢
 by_cases h1:aR5 t=false
 ·rw[if_pos h1] at h;cases h
 ·rw[if_neg h1] at h ⊢
  by_cases h2:(aM5 c).2=0
  ·rw[if_neg (by simpa using h2)] at h ⊢
   by_cases h3:200000<t.1.length+(aN2 (aM5 c).1).length
   ·rw[if_pos h3] at h;cases h
   ·rw[if_neg h3]
    refine⟨?_,rfl,by rw[List.length_append];unfold aG0;omega⟩
    unfold aM5 at h2
    by_cases h4:aA2 c=0
    ·exact h4
    ·rw[if_pos h4] at h2;exact absurd h2 h4
  ·rw[if_pos h2] at h
   exact absurd h h2
theorem bK0.snoc {t:Tp} {l:List Cm} {n:Nat} (h:bK0 t l n) {c:Cm} (hc:aA2 c=0) (ht:c.1=((l.length+1:Nat):Int)) (hl:(t.1++aG0 c).length≤200000):bK0 (t.1++aG0 c,t.2) (l++[c]) n :=
 {turns:=fun i hi=>by
   by_cases hil:i<l.length
   ·rw[List.getElem_append_left hil];exact h.turns i hil
   ·obtain rfl:i=l.length:=by rw[List.length_append,List.length_singleton] at hi;omega
    rw[List.getElem_append_right zn]
    simp only[Nat.sub_self,List.getElem_cons_zero]
    exact⟨hc,by rw[ht];omega⟩
  data:=by show t.1++aG0 c=_;rw[bU3,h.data]
  safe:=by
   have e:(l++[c]).take n=l.take n:=List.take_append_of_le_length h.few
   show t.2=_
   rw[e];exact h.safe
  few:=by have:=h.few;simp;omega
  big:=hl }
theorem Inv.commit (h:Inv g n) {s:Nat} (hs:s<8) (t:Tx):Inv (aG2 g s t) (n+1):=by
 unfold aG2
 split
 ·exact (h.drop hs).say _
 ·split
  ·exact h.say _
  ·split
   ·exact (h.drop hs).say _
   ·split
    ·exact (h.drop hs).say _
    ·rename_i hfull _ _
     split
     ·exact (h.drop hs).say _
     ·rename_i ha
      have ha':(aE1 g.tape (g.next t)).2=0:=by simpa using ha
      obtain⟨a1,a2,a3⟩:=cB6 ha'
      have h1:=h.put hs ⟨none,true⟩ fun _ e=>by cases e
      exact
       {sess:=h1.sess
        holds:=by show bK0 (aE1 g.tape _).1 (g.commits++[_]) g.synced;rw[a2];exact h.holds.snoc a1 rfl a3
        many:=by have:=h.many;show (g.commits++[_]).length≤300;simp;omega
        wait:=by have:=h.wait;show (g.waiting++[s]).length+g.synced=(g.commits++[_]).length;simp;omega
        who:=fun k hk=>by
         have hk':k ∈ g.waiting++[s]:=hk
         rw[List.mem_append,List.mem_singleton] at hk'
         exact hk'.elim (h.who k) (fun e=>e ▸ hs)
        txn:=h1.txn
        told:=by have:=h.told;show g.replies.length+(g.waiting++[s]).length≤n+1;simp;omega }
theorem Inv.work (h:Inv g n) {s:Nat} (hs:s<8) {t:Tx} (ht:t.start≤(g.synced:Int)) (r:Rq):Inv (aG8 g s t r) (n+1):=by
 obtain⟨n1,n2⟩:=h.note hs ht r
 unfold aG8
 split
 ·unfold getE
  split
  ·rename_i hc;exact n1 hc.2
  ·rename_i hc
   split
   ·exact h.say _
   ·rename_i hl
    have:(aE8 g s t r).2=true:=by
     cases e:(aE8 g s t r).2 with
     | true=>rfl
     | false=>exact absurd ⟨by simpa using hl,e⟩ hc
    exact (n2 this).say _
 ·split
  ·unfold scanE
   split
   ·exact h.say _
   ·split
    ·rename_i hc;exact n1 hc
    ·rename_i hc;exact (n2 (by simpa using hc)).say _
  ·split
   ·exact h.commit hs t
   ·unfold cB4
    split
    ·rename_i hc
     obtain⟨h2,h3,_⟩:=bS4 hc
     exact (h.setTxn hs _ fun x e=>by cases e;exact⟨h2,by rw[h3];exact ht⟩).say _
    ·exact h.say _
theorem Inv.request (h:Inv g n) {s:Nat} (hs:s<8) (r:Rq):Inv (aH3 g s r) (n+1):=by
 unfold aH3
 split
 ·exact h.say _
 ·split
  ·exact h.say _
  ·split
   ·refine (h.setTxn hs _ fun x e=>?_).say _
    cases e
    have:=h.many
    have:=h.holds.few
    exact⟨aQ4.2 ⟨⟨by simp,by show (g.synced:Int)≤1048576;omega⟩,by simp,by simp,fun i h=>by simp at h,fun i h=>by simp at h⟩,Int.le_refl _⟩
   ·split
    ·exact (h.drop hs).say _
    ·split
     ·exact (h.drop hs).say _
     ·rename_i hk _ _ hkept
      refine h.work hs ?_ r
      have:bS0 g.synced ((g.at s).txn.getD zeroTx).start=true:=by simpa using hkept
      unfold bS0 at this
      have:=of_decide_eq_true this
      exact this.2.1
theorem Inv.ask (h:Inv g n) {s:Nat} (hs:s<8) (d:List UInt8):Inv (aS0 g s d) (n+1):=by
 unfold aS0
 split
 ·exact h.say _
 ·split
  ·exact h.say _
  ·exact h.request hs _
theorem sync_fold:∀ (ws:List Nat) (g:Eng),g.sess.length=8→(∀ s ∈ ws,s<8)→(ws.foldl aC1 g).sess.length=8∧(ws.foldl aC1 g).tape=g.tape∧(ws.foldl aC1 g).commits=g.commits∧(ws.foldl aC1 g).synced=g.synced+ws.length∧(ws.foldl aC1 g).waiting=g.waiting∧(ws.foldl aC1 g).replies.length=g.replies.length+ws.length∧(∀ s,((ws.foldl aC1 g).at s).txn=(g.at s).txn)∧(ws.foldl aC1 g).up=g.up
 | [],g,h,_=>⟨h,rfl,rfl,rfl,rfl,rfl,fun _=>rfl,rfl⟩
 | a :: ws,g,h,hw=>by
  have ha:a<8:=hw a ZH2
  have h1:(aC1 g a).sess.length=8:=by show (g.sess.set a _).length=8;simpa using h
  obtain⟨b1,b2,b3,b4,b5,b6,b7,b8⟩:=sync_fold ws (aC1 g a) h1 fun s hs=>hw s (by simp[hs])
  rw[List.foldl_cons]
  refine⟨b1,b2,b3,?_,b5,?_,fun s=>?_,b8⟩
  ·rw[b4];show g.synced+1+ws.length=_;simp;omega
  ·rw[b6];show (g.replies++[_]).length+ws.length=_;simp;omega
  ·rw[b7]
   show ((g.put a _).at s).txn=_
   rw[aH6 g a s _ AO]
   by_cases e:s=a
   ·rw[if_pos e,e]
   ·rw[if_neg e]
theorem Inv.sync (h:Inv g n):Inv (aV2 g) n:=by
 unfold aV2
 split
 ·exact h
 ·obtain⟨b1,b2,b3,b4,b5,b6,b7,b8⟩:=sync_fold g.waiting { g with tape:=if aR5 g.tape then (g.tape.1,(g.tape.1.length:Int)) else ([],0) } h.sess h.who
  have hm:=h.holds.may
  have hw:=h.wait
  have ht:=h.told
  have hdat:=h.holds.data
  have hbig:=h.holds.big
  generalize List.foldl aC1 { g with tape:=if aR5 g.tape then (g.tape.1,(g.tape.1.length:Int)) else ([],0) } g.waiting=x at *
  dsimp only at b2 b3 b4 b6 b7
  rw[if_pos hm] at b2
  exact
   {sess:=b1
    holds :=
     {turns:=by show bG0 1 x.commits;rw[b3];exact h.holds.turns
      data:=by show x.tape.1=aR x.commits;rw[b2,b3];exact hdat
      safe:=by
       show x.tape.2=((aR (x.commits.take x.synced)).length:Int)
       rw[b2,b3,b4,List.take_of_length_le AO,← hdat]
      few:=by show x.synced≤x.commits.length;rw[b3,b4];omega
      big:=by show x.tape.1.length≤200000;rw[b2];exact hbig }
    many:=by show x.commits.length≤300;rw[b3];exact h.many
    wait:=by show 0+x.synced=x.commits.length;rw[b3,b4];omega
    who:=fun s hs=>by cases hs
    txn:=fun s t ht'=>by
     have ht2:(x.at s).txn=some t:=ht'
     rw[b7] at ht2
     obtain⟨c1,c2⟩:=h.txn s t ht2
     refine⟨c1,?_⟩
     show t.start≤(x.synced:Int)
     rw[b4]
     omega
    told:=by show x.replies.length+0≤n;rw[b6];omega }
theorem Inv.crash (h:Inv g n) {keep:Int} (hk:0≤keep):Inv (aS1 g keep) n:=by
 unfold aS1
 split
 ·exact h
 ·obtain⟨j,j1,j2,j3⟩:=bH8 h.holds hk
  rw[j3]
  have hl:(g.commits.take j).length=j:=by rw[List.length_take];omega
  have hmono:=aT8 g.commits (i:=j) (j:=g.commits.length) j2
  rw[List.take_length,← h.holds.data] at hmono
  have hb:=h.holds.big
  exact
   {sess:=rfl
    holds :=
     {turns:=h.holds.turns.take j
      data:=rfl
      safe:=by show ((aR (g.commits.take j)).length:Int)=((aR ((g.commits.take j).take (g.commits.take j).length)).length:Int);rw[List.take_length]
      few:=zn
      big:=by show (aR (g.commits.take j)).length≤200000;omega }
    many:=by have:=h.many;show (g.commits.take j).length≤300;omega
    wait:=Nat.zero_add _
    who:=fun s hs=>by cases hs
    txn:=fun s t ht=>by
     have:(Eng.at { up:=false,tape:=(aR (g.commits.take j),((aR (g.commits.take j)).length:Int)),commits:=g.commits.take j,synced:=(g.commits.take j).length,sess:=List.replicate 8 ss0,waiting:=[],replies:=g.replies } s)=ss0:=cO1 s
     rw[this] at ht
     cases ht
    told:=by have:=h.told;show g.replies.length+0≤n;omega }
theorem aT9 {a:Ac} (h:aB6 a=0):(a.kind=1→0≤a.session∧a.session<8)∧(a.kind=3→0≤a.keep∧a.keep≤200000)∧1≤a.kind∧a.kind≤4∧a.data.length≤4000:=by
 unfold aB6 aB1 at h
 split at h
 ·cases h
 ·split at h
  ·cases h
  ·split at h
   ·cases h
   ·split at h
    ·cases h
    ·exact⟨fun _=>by omega,fun _=>by omega,AO,by omega,AO⟩
theorem Inv.act (h:Inv g n) {a:Ac} (ha:aB6 a=0):Inv (doE g a) (n+1):=by
 obtain⟨h1,h2,_⟩:=aT9 ha
 unfold doE
 split
 ·rename_i hk
  exact h.ask (by have:=h1 hk;omega) _
 ·split
  ·exact h.sync.mono AO
  ·split
   ·rename_i hk
    exact (h.crash (h2 hk).1).mono AO
   ·exact { h.mono (Nat.le_succ n) with }
end
theorem Inv.acts:∀ (l:List Ac) (g:Eng) (n:Nat),Inv g n→(∀ a ∈ l,aB6 a=0)→Inv (l.foldl doE g) (n+l.length)
 | [],_,_,h,_=>h
 | a :: l,g,n,h,hl=>by
  have:=Inv.acts l (doE g a) (n+1) (h.act (hl a ZH2)) fun b hb=>hl b (by simp[hb])
  rw[List.foldl_cons,List.length_cons]
  rw[show n+(l.length+1)=n+1+l.length by omega]
  exact this
theorem bL0 {l:List Ac} (h:firstFault l=0):∀ a ∈ l,aB6 a=0:=by
 induction l with
 | nil=>intro a ha;cases ha
 | cons b l ih =>
  unfold firstFault at h
  by_cases h1:aB6 b=0
  ·rw[if_neg ZE3] at h
   intro a ha
   rcases List.mem_cons.1 ha with rfl|ha
   ·exact h1
   ·exact ih h a ha
  ·rw[if_pos h1] at h
   exact absurd h h1
structure Kept (g g':Eng):Prop where
 up:g'.up=g.up
 synced:g'.synced=g.synced
structure Says (g g':Eng) (s:Nat) (r:Rp):Prop where
 up:g'.up=g.up
 synced:g'.synced=g.synced
 commits:g'.commits=g.commits
 tape:g'.tape=g.tape
 waiting:g'.waiting=g.waiting
 replies:g'.replies=g.replies++[r]
 who:r.session=(s:Int)
 waits:∀ k,(g'.at k).waits=(g.at k).waits
 others:∀ k,k≠s→g'.at k=g.at k
 sess:g'.sess.length=g.sess.length
structure cO2 (g g':Eng) (s:Nat) (c:Cm):Prop where
 up:g'.up=g.up
 synced:g'.synced=g.synced
 commits:g'.commits=g.commits++[c]
 waiting:g'.waiting=g.waiting++[s]
 replies:g'.replies=g.replies
 mine:g'.at s=⟨none,true⟩
 others:∀ k,k≠s→g'.at k=g.at k
 sess:g'.sess.length=g.sess.length
section
variable {g : Eng} {s : Nat}
theorem aM7 (g:Eng) (s:Nat) (r:Rp) (hr:r.session=(s:Int)):Says g (g.say r) s r:=⟨rfl,rfl,rfl,rfl,rfl,rfl,hr,fun _=>rfl,fun _ _=>rfl,rfl⟩
theorem aK9 (hl:g.sess.length=8) (hs:s<8) (t:Option Tx) (r:Rp) (hr:r.session=(s:Int)):Says g ((g.txn s t).say r) s r:=by
 refine⟨rfl,rfl,rfl,rfl,rfl,rfl,hr,fun k=>?_,fun k hk=>?_,?_⟩
 ·show (((g.put s ⟨t,(g.at s).waits⟩)).at k).waits=_
  rw[aH6 g s k _ AO]
  by_cases e:k=s
  ·rw[if_pos e,e]
  ·rw[if_neg e]
 ·show ((g.put s ⟨t,(g.at s).waits⟩)).at k=_
  rw[aH6 g s k _ AO,if_neg hk]
 ·show (g.sess.set s _).length=_
  simp
theorem cO3 (hl:g.sess.length=8) (hs:s<8) (t:Tx) (r:Rq):((aE8 g s t r).2=false∧∃ p,Says g (aE8 g s t r).1 s p∧p.code≠0)∨((aE8 g s t r).2=true∧∃ x,(aE8 g s t r).1=g.txn s (some x)):=by
 unfold aE8
 by_cases h:(aH7 t (aG1 r).1).2=0
 ·rw[if_neg ZF9]
  exact .inr ⟨rfl,_,rfl⟩
 ·rw[if_pos h]
  exact .inl ⟨rfl,_,aM7 g s _ rfl,h⟩
theorem cB7 (hl:g.sess.length=8) (hs:s<8) (t:Tx):(∃ r,Says g (aG2 g s t) s r)∨(∃ c,cO2 g (aG2 g s t) s c):=by
 unfold aG2
 split
 ·exact .inl ⟨_,aK9 hl hs _ _ rfl⟩
 ·split
  ·exact .inl ⟨_,aM7 g s _ rfl⟩
  ·split
   ·exact .inl ⟨_,aK9 hl hs _ _ rfl⟩
   ·split
    ·exact .inl ⟨_,aK9 hl hs _ _ rfl⟩
    ·split
     ·exact .inl ⟨_,aK9 hl hs _ _ rfl⟩
     ·refine .inr ⟨_,rfl,rfl,rfl,rfl,rfl,?_,fun k hk=>?_,?_⟩
      ·show (g.put s ⟨none,true⟩).at s=_
       rw[aH6 g s s _ AO,if_pos rfl]
      ·show (g.put s ⟨none,true⟩).at k=_
       rw[aH6 g s k _ AO,if_neg hk]
      ·show (g.sess.set s _).length=_
       simp
theorem cO4 (hl:g.sess.length=8) (hs:s<8) (t:Tx) (r:Rq):(∃ p,Says g (aG8 g s t r) s p)∨(r.kind=6∧∃ c,cO2 g (aG8 g s t r) s c):=by
 have hn:=cO3 hl hs t r
 unfold aG8
 split
 ·left
  unfold getE
  split
  ·rename_i h
   rcases hn with ⟨_,p,hp,_⟩|⟨h2,_⟩
   ·exact⟨p,hp⟩
   ·rw[h.2] at h2;cases h2
  ·rename_i h
   split
   ·exact⟨_,aM7 g s _ rfl⟩
   ·rename_i h1
    rcases hn with ⟨h2,_⟩|⟨_,x,hx⟩
    ·exact absurd ⟨by simpa using h1,h2⟩ h
    ·rw[hx];exact⟨_,aK9 hl hs _ _ rfl⟩
 ·split
  ·left
   unfold scanE
   split
   ·exact⟨_,aM7 g s _ rfl⟩
   ·split
    ·rename_i h
     rcases hn with ⟨_,p,hp,_⟩|⟨h2,_⟩
     ·exact⟨p,hp⟩
     ·rw[h] at h2;cases h2
    ·rename_i h
     rcases hn with ⟨h2,_⟩|⟨_,x,hx⟩
     ·exact absurd h2 h
     ·rw[hx];exact⟨_,aK9 hl hs _ _ rfl⟩
  ·split
   ·rename_i hk
    rcases cB7 hl hs t with h|h
    ·exact .inl h
    ·exact .inr ⟨hk,h⟩
   ·left
    unfold cB4
    split
    ·exact⟨_,aK9 hl hs _ _ rfl⟩
    ·exact⟨_,aM7 g s _ rfl⟩
theorem cV8 (hl:g.sess.length=8) (hs:s<8) (d:List UInt8):(∃ p,Says g (aS0 g s d) s p)∨(∃ c,cO2 g (aS0 g s d) s c∧g.up=true∧(aM2 d).2=0∧(aM2 d).1.kind=6∧(g.at s).waits=false):=by
 unfold aS0
 split
 ·exact .inl ⟨_,aM7 g s _ rfl⟩
 ·rename_i hup
  split
  ·exact .inl ⟨_,aM7 g s _ rfl⟩
  ·rename_i hd
   unfold aH3
   split
   ·exact .inl ⟨_,aM7 g s _ rfl⟩
   ·split
    ·exact .inl ⟨_,aM7 g s _ rfl⟩
    ·rename_i hst
     split
     ·exact .inl ⟨_,aK9 hl hs _ _ rfl⟩
     ·split
      ·exact .inl ⟨_,aK9 hl hs _ _ rfl⟩
      ·split
       ·exact .inl ⟨_,aK9 hl hs _ _ rfl⟩
       ·rcases cO4 hl hs ((g.at s).txn.getD zeroTx) (aM2 d).1 with h|⟨hk,c,hc⟩
        ·exact .inl h
        ·exact .inr ⟨c,hc,by simpa using hup,by simpa using hd,hk,by
          cases hw:(g.at s).waits with
          | false=>rfl
          | true=>exact absurd (.inl hw) hst⟩
end
theorem fold_says:∀ (ws:List Nat) (x:Eng),∃ l,(ws.foldl aC1 x).replies=x.replies++l
 | [],x=>⟨[],by simp⟩
 | w :: ws,x=>by
  obtain⟨l,hl⟩:=fold_says ws (aC1 x w)
  exact⟨_,by rw[List.foldl_cons,hl];show (x.replies++[_])++l=_;rw[List.append_assoc]⟩
theorem cV9 {g:Eng} {n:Nat} (h:Inv g n) {a:Ac} (ha:aB6 a=0):g.synced≤(doE g a).synced∧(doE g a).synced≤g.synced+g.waiting.length∧(∃ l,(doE g a).replies=g.replies++l)∧(g.synced<(doE g a).synced→a.kind=2∨a.kind=3):=by
 obtain⟨h1,h2,_⟩:=aT9 ha
 unfold doE
 split
 ·rename_i hk
  have hs:=h1 hk
  rcases cV8 h.sess (s:=a.session.toNat) AO a.data with ⟨p,hp⟩|⟨c,hc,_⟩
  ·rw[hp.synced];exact⟨zn,AO,⟨_,hp.replies⟩,fun h=>by omega⟩
  ·rw[hc.synced];exact⟨zn,AO,⟨[],by rw[hc.replies];simp⟩,fun h=>by omega⟩
 ·rename_i hk1
  split
  ·rename_i hk
   unfold aV2
   split
   ·exact⟨zn,AO,⟨[],by simp⟩,fun h=>.inl hk⟩
   ·obtain⟨b1,b2,b3,b4,b5,b6,b7,b8⟩:=sync_fold g.waiting { g with tape:=if aR5 g.tape then (g.tape.1,(g.tape.1.length:Int)) else ([],0) } h.sess h.who
    have hx:=fold_says g.waiting { g with tape:=if aR5 g.tape then (g.tape.1,(g.tape.1.length:Int)) else ([],0) }
    generalize List.foldl aC1 { g with tape:=if aR5 g.tape then (g.tape.1,(g.tape.1.length:Int)) else ([],0) } g.waiting=x at *
    dsimp only at b4 hx
    exact⟨by show g.synced≤x.synced;omega,by show x.synced≤_;omega,hx,fun _=>.inl hk⟩
  ·split
   ·rename_i hk
    unfold aS1
    split
    ·exact⟨zn,AO,⟨[],by simp⟩,fun h=>.inr hk⟩
    ·obtain⟨j,j1,j2,j3⟩:=bH8 h.holds (h2 hk).1
     rw[j3]
     have hw:=h.wait
     have hl:(g.commits.take j).length=j:=by rw[List.length_take];omega
     exact⟨by show g.synced≤(g.commits.take j).length;omega,by show (g.commits.take j).length≤_;omega,⟨[],by simp⟩,fun _=>.inr hk⟩
   ·exact⟨zn,by show g.synced≤_;omega,⟨[],by simp⟩,fun h=>by have h':g.synced<g.synced:=h;omega⟩
theorem bG2 {h j:Nat} {a r:List UInt8} (hl:a.length<256) (hz:h / 2 ^ j % 2=0→a=[]):bJ h j ((if h / 2 ^ j % 2=1 then lpS a else [])++r,false)=(a,(r,false)):=by
 unfold bJ
 by_cases hb:h / 2 ^ j % 2=1
 ·rw[if_pos hb,if_pos hb,bS3 _ _ hl]
 ·rw[if_neg hb,if_neg hb,hz AO]
  rfl
theorem aM8 {h:Nat} {r:Rq} {i:Nat} (hp:aG3 h r i=0) (hb:h / 2 ^ i % 2=0):aV r i=[]:=by
 unfold aG3 at hp
 by_cases hl:0<(aV r i).length
 ·rw[if_pos ⟨hb,hl⟩] at hp;cases hp
 ·exact List.eq_nil_of_length_eq_zero AO
theorem has_four {k:Int} (h:1≤k∧k≤8):bO k.toNat=0∨bO k.toNat=3∨bO k.toNat=7∨bO k.toNat=11:=by
 obtain⟨n,rfl⟩:=Int.eq_ofNat_of_zero_le (show 0≤k by omega)
 rw[Int.toNat_natCast]
 have:n=1∨n=2∨n=3∨n=4∨n=5∨n=6∨n=7∨n=8:=by omega
 rcases this with rfl|rfl|rfl|rfl|rfl|rfl|rfl|rfl <;> decide
theorem cH8 {r:Rq} (h:aQ r=0):(1≤r.kind∧r.kind≤8)∧(∀ i,i<4→aG3 (bO r.kind.toNat) r i=0)∧∀ i,i<4→(aV r i).length<256:=by
 unfold aQ at h
 by_cases hk:1≤r.kind∧r.kind≤8
 ·rw[if_neg (by simpa using hk)] at h
  obtain⟨b1,b2,b3⟩:=aR9 h
  have hp:aG7 (bO r.kind.toNat) r=0:=by
   unfold aB4 at h
   split at h
   ·rename_i h1;exact absurd h h1
   ·split at h
    ·cases h
    ·exact h
  obtain⟨p0,p1,p2,p3⟩:=bD8 hp
  have hh:=has_four hk
  refine⟨hk,fun i hi=>?_,fun i hi=>?_⟩
  ·match i,hi with
   | 0,_=>exact p0
   | 1,_=>exact p1
   | 2,_=>exact p2
   | 3,_=>exact p3
  ·generalize bO r.kind.toNat=q at *
   match i,hi with
   | 0,_ =>
    rcases hh with rfl|rfl|rfl|rfl
    ·rw[aM8 p0 ZD9];decide
    all_goals
     have:=(b1 ZD9).1
     show r.name.length<256
     omega
   | 1,_ =>
    rcases hh with rfl|rfl|rfl|rfl
    ·rw[aM8 p1 ZD9];decide
    all_goals
     have:=(b1 ZD9).2
     show r.key.length<256
     omega
   | 2,_ =>
    rcases hh with rfl|rfl|rfl|rfl
    ·rw[aM8 p2 ZD9];decide
    ·rw[aM8 p2 ZD9];decide
    ·have:=b2 ZD9 ZD9
     show r.last.length<256
     omega
    ·rw[aM8 p2 ZD9];decide
   | 3,_ =>
    show r.value.length<256
    omega
 ·rw[if_pos hk] at h
  cases h
theorem bX9 (h:Nat) (r:Rq) (hs:∀ i,i<4→(aV r i).length<256):∀ j,j≤4→1≤(bA h r j).length∧(bA h r j).length≤1+j*256
 | 0,_=>⟨zn,zn⟩
 | j+1,hj=>by
  obtain⟨h1,h2⟩:=bX9 h r hs j AO
  have:=hs j AO
  unfold bA
  rw[List.length_append]
  split
  ·rw[bM2];omega
  ·rw[List.length_nil];omega
theorem cY0 {r:Rq} (h:aQ r=0):aM2 (bK9 r).1=(r,0)∧(bK9 r).1.length≤4000:=by
 obtain⟨hk,hp,hs⟩:=cH8 h
 obtain⟨l1,l2⟩:=bX9 (bO r.kind.toNat) r hs 4 zn
 have he:(bK9 r).1=bA (bO r.kind.toNat) r 4:=by unfold bK9;rw[if_neg ZF9]
 rw[he]
 refine⟨?_,AO⟩
 have hform:bA (bO r.kind.toNat) r 4=UInt8.ofNat r.kind.toNat :: ((if bO r.kind.toNat / 2 ^ 0 % 2=1 then lpS (aV r 0) else [])++((if bO r.kind.toNat / 2 ^ 1 % 2=1 then lpS (aV r 1) else [])++((if bO r.kind.toNat / 2 ^ 2 % 2=1 then lpS (aV r 2) else [])++((if bO r.kind.toNat / 2 ^ 3 % 2=1 then lpS (aV r 3) else [])++[])))):=by
  simp[bA,List.append_assoc]
 have hk0:(UInt8.ofNat r.kind.toNat).toNat=r.kind.toNat:=aS9 AO
 unfold aM2
 rw[if_neg AO,if_neg AO,hform]
 simp only[List.getD_cons_zero,hk0,List.drop_succ_cons,List.drop_zero]
 rw[if_neg ZC8]
 have f0:=bG2 (h:=bO r.kind.toNat) (j:=0) (a:=aV r 0) (r:=(if bO r.kind.toNat / 2 ^ 1 % 2=1 then lpS (aV r 1) else [])++((if bO r.kind.toNat / 2 ^ 2 % 2=1 then lpS (aV r 2) else [])++((if bO r.kind.toNat / 2 ^ 3 % 2=1 then lpS (aV r 3) else [])++[]))) (hs 0 AO) (aM8 (hp 0 AO))
 have f1:=bG2 (h:=bO r.kind.toNat) (j:=1) (a:=aV r 1) (r:=(if bO r.kind.toNat / 2 ^ 2 % 2=1 then lpS (aV r 2) else [])++((if bO r.kind.toNat / 2 ^ 3 % 2=1 then lpS (aV r 3) else [])++[])) (hs 1 AO) (aM8 (hp 1 AO))
 have f2:=bG2 (h:=bO r.kind.toNat) (j:=2) (a:=aV r 2) (r:=(if bO r.kind.toNat / 2 ^ 3 % 2=1 then lpS (aV r 3) else [])++[]) (hs 2 AO) (aM8 (hp 2 AO))
 have f3:=bG2 (h:=bO r.kind.toNat) (j:=3) (a:=aV r 3) (r:=[]) (hs 3 AO) (aM8 (hp 3 AO))
 generalize bO r.kind.toNat=q at *
 generalize ((if q / 2 ^ 3 % 2=1 then lpS (aV r 3) else [])++[]:List UInt8)=s3 at *
 generalize ((if q / 2 ^ 2 % 2=1 then lpS (aV r 2) else [])++s3:List UInt8)=s2 at *
 generalize ((if q / 2 ^ 1 % 2=1 then lpS (aV r 1) else [])++s2:List UInt8)=s1 at *
 generalize ((if q / 2 ^ 0 % 2=1 then lpS (aV r 0) else [])++s1:List UInt8)=s0 at *
 have u1:aW q (s0,false) 1=(s1,false):=by show (bJ q 0 (s0,false)).2=_;rw[f0]
 have u2:aW q (s0,false) 2=(s2,false):=by show (bJ q 1 (aW q (s0,false) 1)).2=_;rw[u1,f1]
 have u3:aW q (s0,false) 3=(s3,false):=by show (bJ q 2 (aW q (s0,false) 2)).2=_;rw[u2,f2]
 have u4:aW q (s0,false) 4=([],false):=by show (bJ q 3 (aW q (s0,false) 3)).2=_;rw[u3,f3]
 have a0:fAt q (s0,false) 0=r.name:=by show (bJ q 0 (s0,false)).1=_;rw[f0];rfl
 have a1:fAt q (s0,false) 1=r.key:=by show (bJ q 1 (aW q (s0,false) 1)).1=_;rw[u1,f1];rfl
 have a2:fAt q (s0,false) 2=r.last:=by show (bJ q 2 (aW q (s0,false) 2)).1=_;rw[u2,f2];rfl
 have a3:fAt q (s0,false) 3=r.value:=by show (bJ q 3 (aW q (s0,false) 3)).1=_;rw[u3,f3];rfl
 have hr:rqS r.kind.toNat q (s0,false)=r:=by
  unfold rqS
  rw[a0,a1,a2,a3]
  obtain⟨k,n,e,l,v⟩:=r
  simp only[Rq.mk.injEq,and_true]
  have:0≤k:=by have:=hk.1;simp only[] at this;omega
  omega
 unfold aK7
 rw[u4,hr]
 dsimp only
 rw[if_neg ZD9,if_neg ZD9,if_neg ZF9]
structure Gr where
 kind:Int
 session:Int
 name:Int
 key:Int
 value:Int
def bK1 (n:Int) (k:Nat):Nat:=(if n<0 then -(n+1) else n).toNat % k
theorem cY1 (n:Int) {k:Nat} (h:0<k):bK1 n k<k:=Nat.mod_lt _ h
def bt (n:Int):UInt8:=UInt8.ofNat (n % 256).toNat
def reqS (g:Gr):Rq :=
 if bK1 g.kind 20<4 then ⟨1,[],[],[],[]⟩
 else if bK1 g.kind 20<7 then ⟨2,[bt (97+bK1 g.name 3)],[bt (107+bK1 g.key 5)],[],[]⟩
 else if bK1 g.kind 20=7 then ⟨3,[bt (97+bK1 g.name 3)],[bt (107+bK1 g.key 5)],[bt (107+bK1 g.value 5)],[]⟩
 else if bK1 g.kind 20<12 then ⟨4,[bt (97+bK1 g.name 3)],[bt (107+bK1 g.key 5)],[],[bt (bK1 g.value 50)]⟩
 else if bK1 g.kind 20=12 then ⟨5,[bt (97+bK1 g.name 3)],[bt (107+bK1 g.key 5)],[],[]⟩
 else if bK1 g.kind 20<17 then ⟨6,[],[],[],[]⟩
 else if bK1 g.kind 20=17 then ⟨7,[],[],[],[]⟩
 else ⟨8,[bt (97+bK1 g.name 3)],[bt (107+bK1 g.key 5)],[],[]⟩
def askA (s:Nat) (r:Rq):Ac:=⟨1,s,0,(bK9 r).1⟩
def actS (g:Gr):Ac :=
 if bK1 g.kind 26=20∨bK1 g.kind 26=21∨bK1 g.kind 26=22 then ⟨2,0,0,[]⟩
 else if bK1 g.kind 26=23 then ⟨3,0,bK1 g.value 80,[]⟩
 else if bK1 g.kind 26=24 then ⟨4,0,0,[]⟩
 else if bK1 g.kind 26=25 then ⟨1,bK1 g.session 8,0,[bt g.value,bt g.key]⟩
 else askA (bK1 g.session 8) (reqS g)
def cY2 (l:List Gr) (most:Nat):List Ac:=(l.take most).map actS
theorem cY3 (k:Int) (a b:UInt8) (h:k=2∨k=5∨k=8) (ha:aI [a]=0):aQ ⟨k,[a],[b],[],[]⟩=0:=by
 rcases h with rfl|rfl|rfl <;> simp[aQ,aB4,aA9,aG7,aB0,aG3,aV,bO,hasT,ha,aE]
theorem cY4 (a b c:UInt8) (ha:aI [a]=0):aQ ⟨3,[a],[b],[c],[]⟩=0:=by
 simp[aQ,aB4,aA9,aG7,aB0,aG3,aV,bO,hasT,ha,aE]
theorem put_fine (a b c:UInt8) (ha:aI [a]=0):aQ ⟨4,[a],[b],[],[c]⟩=0:=by
 simp[aQ,aB4,aA9,aG7,aB0,aG3,aV,bO,hasT,ha,aE]
theorem cY5 (k:Int) (h:k=1∨k=6∨k=7):aQ ⟨k,[],[],[],[]⟩=0:=by
 rcases h with rfl|rfl|rfl <;> decide
theorem cY6 (n:Int):aI [bt (97+bK1 n 3)]=0:=by
 have h:=cY1 n (k:=3) AO
 generalize bK1 n 3=q at *
 have:q=0∨q=1∨q=2:=by omega
 rcases this with rfl|rfl|rfl <;> decide
theorem cY7 (g:Gr):aQ (reqS g)=0:=by
 have hn:=cY6 g.name
 unfold reqS
 repeat' split
 ·exact cY5 1 (.inl rfl)
 ·exact cY3 2 _ _ (.inl rfl) hn
 ·exact cY4 _ _ _ hn
 ·exact put_fine _ _ _ hn
 ·exact cY3 5 _ _ (.inr (.inl rfl)) hn
 ·exact cY5 6 (.inr (.inl rfl))
 ·exact cY5 7 (.inr (.inr rfl))
 ·exact cY3 8 _ _ (.inr (.inr rfl)) hn
theorem cY8 {s:Nat} (hs:s<8) {d:List UInt8} (hd:d.length≤4000):aB6 ⟨1,s,0,d⟩=0:=by
 unfold aB6 aB1
 simp only[]
 rw[if_neg AO,if_neg AO,if_neg AO,if_neg ZH2]
theorem cY9 {s:Nat} (hs:s<8) {r:Rq} (hr:aQ r=0):aB6 (askA s r)=0:=cY8 hs (cY0 hr).2
theorem cO5 {k:Nat} (hk:k≤200000):aB6 ⟨3,0,(k:Int),[]⟩=0:=by
 unfold aB6 aB1
 simp only[]
 rw[if_neg AO,if_neg AO,if_neg ZH2,if_neg ZH2]
theorem sync_fine:aB6 ⟨2,0,0,[]⟩=0:=by decide
theorem start_fine:aB6 ⟨4,0,0,[]⟩=0:=by decide
theorem cZ0 (g:Gr):aB6 (actS g)=0:=by
 unfold actS
 repeat' split
 ·exact sync_fine
 ·exact cO5 (by have:=cY1 g.value (k:=80) AO;omega)
 ·exact start_fine
 ·exact cY8 (cY1 _ AO) ZH2
 ·exact cY9 (cY1 _ AO) (cY7 g)
theorem script_fine (l:List Gr) (n:Nat):∀ a ∈ cY2 l n,aB6 a=0:=by
 intro a ha
 obtain⟨g,_,rfl⟩:=List.mem_map.1 ha
 exact cZ0 g
theorem script_len (l:List Gr) (n:Nat):(cY2 l n).length≤n:=by
 unfold cY2
 rw[List.length_map,List.length_take]
 omega
theorem run_fine {l:List Ac} (h:∀ a ∈ l,aB6 a=0) (hl:l.length≤100000):bS2 l=((bM l).out,0):=by
 have hf:firstFault l=0:=by
  induction l with
  | nil=>rfl
  | cons a l ih =>
   unfold firstFault
   rw[if_neg (by simpa using h a ZH2)]
   exact ih (fun b hb=>h b (by simp[hb])) (by rw[List.length_cons] at hl;omega)
 unfold bS2
 rw[if_neg AO,if_neg (by simpa using hf)]
theorem cZ1 {l:List Ac} (h:∀ a ∈ l,aB6 a=0):Inv (bM l) l.length:=by
 have:=Inv.acts l eng0 0 inv_zero h
 rwa [Nat.zero_add] at this
theorem cZ2 (l:List Ac) (a:Ac):bM (l++[a])=doE (bM l) a:=by unfold bM;rw[List.foldl_append];rfl
theorem ran_app (l m:List Ac):bM (l++m)=m.foldl doE (bM l):=by unfold bM;rw[List.foldl_append]
def RpR (S:Nat→Prop) (w:World) (cs:List Value) (r:Rp):Prop :=
 ∃ V v P p R q A n K a X b A' n' K' a' X' b',cs=[.int .i64 r.session,.int .i64 r.code,.int .i64 r.turn,.bool r.found,.slice V r.value.length v,.slice P r.pairs.length p,.slice R r.root.length q,.bool r.outer.empty,.slice A r.outer.steps.length n,.slice K r.outer.pair.1.length a,.slice X r.outer.pair.2.length b,.bool r.inner.empty,.slice A' r.inner.steps.length n',.slice K' r.inner.pair.1.length a',.slice X' r.inner.pair.2.length b'] ∧
  Bs S w V r.value∧Ps S w P r.pairs∧Bs S w R r.root∧(Sts S w A r.outer.steps∧Bs S w K r.outer.pair.1∧Bs S w X r.outer.pair.2)∧(Sts S w A' r.inner.steps∧Bs S w K' r.inner.pair.1∧Bs S w X' r.inner.pair.2)
theorem rpR_stays:bI RpR :=
 ⟨fun _ _ _ _ _ hb ⟨V,v,P,p,R,q,A,n,K,a,X,b,A',n',K',a',X',b',h0,h1,h2,h3,⟨h4,h5,h6⟩,h7,h8,h9⟩=>⟨V,v,P,p,R,q,A,n,K,a,X,b,A',n',K',a',X',b',h0,h1.bsame hb,h2.same pairR_stays hb,h3.bsame hb,⟨h4.same stR_stays hb,h5.bsame hb,h6.bsame hb⟩,h7.same stR_stays hb,h8.bsame hb,h9.bsame hb⟩,
 fun _ _ _ _ _ hb ⟨V,v,P,p,R,q,A,n,K,a,X,b,A',n',K',a',X',b',h0,h1,h2,h3,⟨h4,h5,h6⟩,h7,h8,h9⟩=>⟨V,v,P,p,R,q,A,n,K,a,X,b,A',n',K',a',X',b',h0,h1.bless hb,h2.less pairR_stays hb,h3.bless hb,⟨h4.less stR_stays hb,h5.bless hb,h6.bless hb⟩,h7.less stR_stays hb,h8.bless hb,h9.bless hb⟩⟩
def FoR (S:Nat→Prop) (w:World) (cs:List Value) (l:List Tn):Prop:=∃ A c,cs=[.slice A l.length c]∧l.length≤c∧Ts S w A l
theorem foR_stays:bI FoR :=
 ⟨fun _ _ _ _ _ hb ⟨A,c,h0,h1,h2⟩=>⟨A,c,h0,h1,h2.same tenR_stays hb⟩,fun _ _ _ _ _ hb ⟨A,c,h0,h1,h2⟩=>⟨A,c,h0,h1,h2.less tenR_stays hb⟩⟩
def NaR (_:Nat→Prop) (_:World) (cs:List Value) (n:Nat):Prop:=cs=[.int .i64 (n:Int)]
theorem naR_stays:bI NaR:=⟨fun _ _ _ _ _ _ h=>h,fun _ _ _ _ _ _ h=>h⟩
def Eng.forests (g:Eng):List (List Tn):=(List.range (g.commits.length+1)).map (aS g.commits)
structure Mem where
 cs:Array Value
 A:Option Addr
 c:Nat
 v:Nat→Value
 px:Nat→Option Nat
def Mem.fix (m:Mem) (G b:Nat):Prop:=b≠G∧∀ i,i<4→(m.v i).ownBlock≠some b
def bG3 (p:Option Nat):Value:=.pointer (p.map fun b=>⟨b,0,none⟩)
structure CellsM (m:Mem) (g:Eng):Prop where
 size:m.cs.size=24
 up:m.cs[0]?=some (.bool g.up)
 data:m.cs[1]?=some (.slice m.A g.tape.1.length m.c)
 safe:m.cs[2]?=some (.int .i64 g.tape.2)
 com:m.cs[3]?=some (m.v 0)
 fo:m.cs[4]?=some (m.v 1)
 syn:m.cs[5]?=some (.int .i64 (g.synced:Int))
 px:∀ s,s<8→m.cs[6+s*2]?=some (bG3 (m.px s))
 wt:∀ s,s<8→m.cs[6+s*2+1]?=some (.bool (g.at s).waits)
 wai:m.cs[22]?=some (m.v 2)
 rep:m.cs[23]?=some (m.v 3)
def bL1 (S:Nat→Prop) (w:World) (p:Option Nat) (t:Option Tx):Prop :=
 match t with
 | none=>p=none
 | some t=>∃ b A n B k,p=some b∧S b∧w.heap[b]?=some (.cells #[.int .i64 t.start,.slice A t.reads.length n,.slice B t.writes.length k] 98 (0,0))∧t.reads.length≤n∧t.writes.length≤k∧Ws S w A t.reads∧Ws S w B t.writes
theorem bL1.same {S:Nat→Prop} {w w':World} {p:Option Nat} {t:Option Tx} (h:bL1 S w p t) (hb:aC S w w'):bL1 S w' p t:=by
 cases t with
 | none=>exact h
 | some t =>
  obtain⟨b,A,n,B,k,h0,h1,h2,h3,h4,h5,h6⟩:=h
  exact⟨b,A,n,B,k,h0,h1,(hb.block b h1 (Array.getElem?_eq_some_iff.1 h2).1).trans h2,h3,h4,h5.same wrR_stays hb,h6.same wrR_stays hb⟩
theorem bL1.less {S S':Nat→Prop} {w:World} {p:Option Nat} {t:Option Tx} (h:bL1 S w p t) (hl:∀ b,b<w.heap.size→S b→S' b):bL1 S' w p t:=by
 cases t with
 | none=>exact h
 | some t =>
  obtain⟨b,A,n,B,k,h0,h1,h2,h3,h4,h5,h6⟩:=h
  exact⟨b,A,n,B,k,h0,hl b (Array.getElem?_eq_some_iff.1 h2).1 h1,h2,h3,h4,h5.less wrR_stays hl,h6.less wrR_stays hl⟩
structure Apart (G:Nat) (m:Mem):Prop where
 own:∀ i,i<4→(m.v i).ownBlock≠some G
 two:∀ i j,i<4→j<4→i≠j→∀ b,(m.v i).ownBlock=some b→(m.v j).ownBlock≠some b
structure aP7 (w:World) (G:Nat) (g:Eng) (fs:List (List Tn)) (m:Mem):Prop where
 dat:Bs (m.fix G) w m.A g.tape.1
 cap:g.tape.1.length≤m.c
 com:Own 2 CmR (m.fix G) w 0 177 (m.v 0) g.commits
 fo:Own 1 FoR (m.fix G) w 0 26 (m.v 1) fs
 wai:Own 1 NaR (m.fix G) w 0 3 (m.v 2) g.waiting
 rep:Own 15 RpR (m.fix G) w 0 57 (m.v 3) g.replies
 txs:∀ s,s<8→bL1 (m.fix G) w (m.px s) (g.at s).txn
 apart:Apart G m
structure aX (F:Nat→Prop) (w:World) (G:Nat) (g:Eng) (fs:List (List Tn)) (m:Mem):Prop where
 blk:w.heap[G]?=some (.cells m.cs 115 (0,0))
 cells:CellsM m g
 rows:aP7 w G g fs m
 fixF:∀ b,F b→m.fix G b
def EngR (F:Nat→Prop) (w:World) (G:Nat) (g:Eng):Prop:=∃ m,aX F w G g g.forests m
theorem aX.lt {F:Nat→Prop} {w:World} {G:Nat} {g:Eng} {fs:List (List Tn)} {m:Mem} (h:aX F w G g fs m):G<w.heap.size:=(Array.getElem?_eq_some_iff.1 h.blk).1
theorem bG4 {α:Type} {size:Nat} {R:(Nat→Prop)→World→List Value→α→Prop} {S:Nat→Prop} {w:World} {base:Nat} {e:TypeId} {v:Value} {l:List α} (h:Own size R S w base e v l) {b:Nat} (hb:v.ownBlock=some b):b<w.heap.size:=by
 obtain⟨xs,h1,_⟩:=h
 exact (h1.lt b hb).2
theorem aP7.lts {w:World} {G:Nat} {g:Eng} {fs:List (List Tn)} {m:Mem} (h:aP7 w G g fs m) {i b:Nat} (hi:i<4) (hb:(m.v i).ownBlock=some b):b<w.heap.size:=by
 match i,hi with
 | 0,_=>exact bG4 h.com hb
 | 1,_=>exact bG4 h.fo hb
 | 2,_=>exact bG4 h.wai hb
 | 3,_=>exact bG4 h.rep hb
theorem aX.fresh {F:Nat→Prop} {w:World} {G:Nat} {g:Eng} {fs:List (List Tn)} {m:Mem} (h:aX F w G g fs m) {b:Nat} (hb:w.heap.size≤b):m.fix G b :=
 ⟨by have:=h.lt;omega,fun i hi e=>by have:=h.rows.lts hi e;omega⟩
theorem aP7.same {w w':World} {G:Nat} {g:Eng} {fs:List (List Tn)} {m:Mem} (h:aP7 w G g fs m) (hb:aC (fun b=>b≠G) w w'):aP7 w' G g fs m where
 dat:=h.dat.bsame ⟨hb.size,fun k hk hl=>hb.block k hk.1 hl⟩
 cap:=h.cap
 com:=h.com.keep cmR_stays hb (fun b _ hs=>hs.1) (fun b e hG=>h.apart.own 0 AO (hG ▸ e)) (fun _ _ h=>h) zn
 fo:=h.fo.keep foR_stays hb (fun b _ hs=>hs.1) (fun b e hG=>h.apart.own 1 AO (hG ▸ e)) (fun _ _ h=>h) zn
 wai:=h.wai.keep naR_stays hb (fun b _ hs=>hs.1) (fun b e hG=>h.apart.own 2 AO (hG ▸ e)) (fun _ _ h=>h) zn
 rep:=h.rep.keep rpR_stays hb (fun b _ hs=>hs.1) (fun b e hG=>h.apart.own 3 AO (hG ▸ e)) (fun _ _ h=>h) zn
 txs:=fun s hs=>(h.txs s hs).same ⟨hb.size,fun k hk hl=>hb.block k hk.1 hl⟩
 apart:=h.apart
theorem aX.below {F F':Nat→Prop} {w w':World} {G:Nat} {g:Eng} {fs:List (List Tn)} {m:Mem} (h:aX F w G g fs m) (hb:Below w.heap.size w w') (hF:∀ b,F' b→F b∨w.heap.size≤b):aX F' w' G g fs m where
 blk:=(hb.block G h.lt).trans h.blk
 cells:=h.cells
 rows:=h.rows.same (aC.of_below hb)
 fixF:=fun b hb'=>(hF b hb').elim (h.fixF b) h.fresh
theorem EngR.below {F F':Nat→Prop} {w w':World} {G:Nat} {g:Eng} (h:EngR F w G g) (hb:Below w.heap.size w w') (hF:∀ b,F' b→F b∨w.heap.size≤b):EngR F' w' G g :=
 let ⟨m,h⟩:=h
 ⟨m,h.below hb hF⟩
theorem aX.cell {F:Nat→Prop} {w:World} {G:Nat} {g:Eng} {fs:List (List Tn)} {m:Mem} (h:aX F w G g fs m) (i:Nat):w.cell? ⟨G,i,none⟩=m.cs[i]?:=by
 have:=aA (cs:=m.cs.toList) (w:=w) (g:=G) (t:=115) (by simpa using h.blk) i
 simpa using this
theorem aX.frozen {F:Nat→Prop} {w:World} {G:Nat} {g:Eng} {fs:List (List Tn)} {m:Mem} (h:aX F w G g fs m) (i:Nat):w.frozen? ⟨G,i,none⟩=false :=
 aD (cs:=m.cs.toList) (t:=115) (by simpa using h.blk) i
theorem aX.set {F:Nat→Prop} {w:World} {G:Nat} {g g':Eng} {fs fs':List (List Tn)} {m m':Mem} (h:aX F w G g fs m) (i:Nat) (v:Value) (hm:m'.cs=m.cs.setIfInBounds i v) (hc:CellsM m' g') (hr:aP7 (w.setCell ⟨G,i,none⟩ v) G g' fs' m') (hf:∀ b,m.fix G b→m'.fix G b):aX F (w.setCell ⟨G,i,none⟩ v) G g' fs' m' where
 blk:=by rw[heap_setCell_same w G i m.cs _ v h.blk,hm]
 cells:=hc
 rows:=hr
 fixF:=fun b hb=>hf b (h.fixF b hb)
theorem aD1 (w:World) (G i:Nat) (v:Value):aC (fun b=>b≠G) w (w.setCell ⟨G,i,none⟩ v):=(aC.refl _ w).setCell (p:=⟨G,i,none⟩) (fun h=>h rfl) v
theorem aT (cs:Array Value) (v:Value) {i j:Nat} (h:i≠j):(cs.setIfInBounds i v)[j]?=cs[j]?:=Array.getElem?_setIfInBounds_ne h
theorem bC6 (cs:Array Value) (v:Value) {i:Nat} (h:i<cs.size):(cs.setIfInBounds i v)[i]?=some v:=by simp[h]
theorem aP7.turn {w:World} {G:Nat} {g g':Eng} {fs:List (List Tn)} {m m':Mem} (h:aP7 w G g fs m) (hv:m'.v=m.v) (hA:m'.A=m.A) (hc:m'.c=m.c) (h1:g'.tape.1=g.tape.1) (h2:g'.commits=g.commits) (h3:g'.waiting=g.waiting) (h4:g'.replies=g.replies) (ht:∀ s,s<8→bL1 (m.fix G) w (m'.px s) (g'.at s).txn):aP7 w G g' fs m':=by
 have hf:m'.fix G=m.fix G:=by unfold Mem.fix;rw[hv]
 exact
  {dat:=by rw[hf,hA,h1];exact h.dat
   cap:=by rw[hc,h1];exact h.cap
   com:=by rw[hf,hv,h2];exact h.com
   fo:=by rw[hf,hv];exact h.fo
   wai:=by rw[hf,hv,h3];exact h.wai
   rep:=by rw[hf,hv,h4];exact h.rep
   txs:=by rw[hf];exact ht
   apart:=⟨by rw[hv];exact h.apart.own,by rw[hv];exact h.apart.two⟩ }
section
variable {F : Nat → Prop} {w : World} {G : Nat} {g : Eng} {fs : List (List Tn)} {m : Mem}
theorem aX.setUp (h:aX F w G g fs m) (u:Bool):aX F (w.setCell ⟨G,0,none⟩ (.bool u)) G { g with up:=u } fs { m with cs:=m.cs.setIfInBounds 0 (.bool u) }:=by
 have c:=h.cells
 refine h.set 0 _ rfl ?_ ((h.rows.same (aD1 w G 0 _)).turn rfl rfl rfl rfl rfl rfl rfl (h.rows.same (aD1 w G 0 _)).txs) (fun _ h=>h)
 exact
  {size:=by simpa using c.size
   up:=bC6 _ _ (by rw[c.size];omega)
   data:=(aT _ _ AO).trans c.data
   safe:=(aT _ _ AO).trans c.safe
   com:=(aT _ _ AO).trans c.com
   fo:=(aT _ _ AO).trans c.fo
   syn:=(aT _ _ AO).trans c.syn
   px:=fun s hs=>(aT _ _ AO).trans (c.px s hs)
   wt:=fun s hs=>(aT _ _ AO).trans (c.wt s hs)
   wai:=(aT _ _ AO).trans c.wai
   rep:=(aT _ _ AO).trans c.rep }
theorem aX.setSynced (h:aX F w G g fs m) (n:Nat):aX F (w.setCell ⟨G,5,none⟩ (.int .i64 (n:Int))) G { g with synced:=n } fs { m with cs:=m.cs.setIfInBounds 5 (.int .i64 (n:Int)) }:=by
 have c:=h.cells
 refine h.set 5 _ rfl ?_ ((h.rows.same (aD1 w G 5 _)).turn rfl rfl rfl rfl rfl rfl rfl (h.rows.same (aD1 w G 5 _)).txs) (fun _ h=>h)
 exact
  {size:=by simpa using c.size
   up:=(aT _ _ AO).trans c.up
   data:=(aT _ _ AO).trans c.data
   safe:=(aT _ _ AO).trans c.safe
   com:=(aT _ _ AO).trans c.com
   fo:=(aT _ _ AO).trans c.fo
   syn:=bC6 _ _ (by rw[c.size];omega)
   px:=fun s hs=>(aT _ _ AO).trans (c.px s hs)
   wt:=fun s hs=>(aT _ _ AO).trans (c.wt s hs)
   wai:=(aT _ _ AO).trans c.wai
   rep:=(aT _ _ AO).trans c.rep }
theorem aT0 (g:Eng) (s k:Nat) (x:Ss) (hs:s<g.sess.length):(g.put s x).at k=if k=s then x else g.at k:=by
 unfold Eng.at Eng.put
 simp only[List.getD_eq_getElem?_getD,List.getElem?_set]
 by_cases h:s=k
 ·subst h
  simp[hs]
 ·rw[if_neg h,if_neg (fun e=>h e.symm)]
theorem aX.setTxn (h:aX F w G g fs m) (hl:g.sess.length=8) {s:Nat} (hs:s<8) (p:Option Nat) (t:Option Tx) (ht:bL1 (m.fix G) w p t) :
  aX F (w.setCell ⟨G,6+s*2,none⟩ (bG3 p)) G (g.txn s t) fs { m with cs:=m.cs.setIfInBounds (6+s*2) (bG3 p),px:=fun k=>if k=s then p else m.px k }:=by
 have c:=h.cells
 have hr:=h.rows.same (aD1 w G (6+s*2) (bG3 p))
 have ht':bL1 (m.fix G) (w.setCell ⟨G,6+s*2,none⟩ (bG3 p)) p t:=ht.same ⟨(aD1 w G (6+s*2) (bG3 p)).size,fun k hk hl=>(aD1 w G (6+s*2) (bG3 p)).block k hk.1 hl⟩
 refine h.set (6+s*2) _ rfl ?_ (hr.turn rfl rfl rfl rfl rfl rfl rfl fun k hk=>?_) (fun _ h=>h)
 ·exact
   {size:=by simpa using c.size
    up:=(aT _ _ AO).trans c.up
    data:=(aT _ _ AO).trans c.data
    safe:=(aT _ _ AO).trans c.safe
    com:=(aT _ _ AO).trans c.com
    fo:=(aT _ _ AO).trans c.fo
    syn:=(aT _ _ AO).trans c.syn
    px:=fun k hk=>by
     by_cases e:k=s
     ·subst e
      rw[bC6 _ _ (by rw[c.size];omega)]
      simp
     ·rw[aT _ _ AO,c.px k hk]
      simp[e]
    wt:=fun k hk=>by
     rw[aT _ _ AO,c.wt k hk]
     unfold Eng.txn
     rw[aT0 g s k _ AO]
     by_cases e:k=s
     ·subst e;rw[if_pos rfl]
     ·rw[if_neg e]
    wai:=(aT _ _ AO).trans c.wai
    rep:=(aT _ _ AO).trans c.rep }
 ·unfold Eng.txn
  rw[aT0 g s k _ AO]
  by_cases e:k=s
  ·subst e
   simpa using ht'
  ·simp only[e,if_false]
   exact hr.txs k hk
theorem aX.setWaits (h:aX F w G g fs m) (hl:g.sess.length=8) {s:Nat} (hs:s<8) (u:Bool) :
  aX F (w.setCell ⟨G,6+s*2+1,none⟩ (.bool u)) G (g.put s ⟨(g.at s).txn,u⟩) fs { m with cs:=m.cs.setIfInBounds (6+s*2+1) (.bool u) }:=by
 have c:=h.cells
 have hr:=h.rows.same (aD1 w G (6+s*2+1) (.bool u))
 refine h.set (6+s*2+1) _ rfl ?_ (hr.turn rfl rfl rfl rfl rfl rfl rfl fun k hk=>?_) (fun _ h=>h)
 ·exact
   {size:=by simpa using c.size
    up:=(aT _ _ AO).trans c.up
    data:=(aT _ _ AO).trans c.data
    safe:=(aT _ _ AO).trans c.safe
    com:=(aT _ _ AO).trans c.com
    fo:=(aT _ _ AO).trans c.fo
    syn:=(aT _ _ AO).trans c.syn
    px:=fun k hk=>by rw[aT _ _ AO];exact c.px k hk
    wt:=fun k hk=>by
     rw[aT0 g s k _ AO]
     by_cases e:k=s
     ·subst e
      rw[if_pos rfl]
      exact bC6 _ _ (by rw[c.size];omega)
     ·rw[if_neg e,aT _ _ AO]
      exact c.wt k hk
    wai:=(aT _ _ AO).trans c.wai
    rep:=(aT _ _ AO).trans c.rep }
 ·rw[aT0 g s k _ AO]
  by_cases e:k=s
  ·subst e
   rw[if_pos rfl]
   exact hr.txs k hk
  ·rw[if_neg e]
   exact hr.txs k hk
theorem aX.setTape (h:aX F w G g fs m) (A:Option Addr) (k:Nat) (t:Tp) (hd:Bs (m.fix G) w A t.1) (hk:t.1.length≤k) :
  aX F ((w.setCell ⟨G,1,none⟩ (.slice A t.1.length k)).setCell ⟨G,2,none⟩ (.int .i64 t.2)) G { g with tape:=t } fs { m with cs:=(m.cs.setIfInBounds 1 (.slice A t.1.length k)).setIfInBounds 2 (.int .i64 t.2),A:=A,c:=k }:=by
 have c:=h.cells
 have hsm:=(aD1 w G 1 (.slice A t.1.length k)).trans (aD1 _ G 2 (.int .i64 t.2))
 have hr:=h.rows.same hsm
 have hd':Bs (m.fix G) ((w.setCell ⟨G,1,none⟩ (.slice A t.1.length k)).setCell ⟨G,2,none⟩ (.int .i64 t.2)) A t.1:=hd.bsame ⟨hsm.size,fun k hk hl=>hsm.block k hk.1 hl⟩
 refine⟨by rw[heap_setCell_same _ G 2 _ _ _ (heap_setCell_same w G 1 m.cs _ _ h.blk)],?_,{ hr with dat:=hd',cap:=hk,apart:=⟨hr.apart.own,hr.apart.two⟩ },h.fixF⟩
 exact
  {size:=by simpa using c.size
   up:=(aT _ _ AO).trans ((aT _ _ AO).trans c.up)
   data:=(aT _ _ AO).trans (bC6 _ _ (by rw[c.size];omega))
   safe:=bC6 _ _ (by simp[c.size])
   com:=(aT _ _ AO).trans ((aT _ _ AO).trans c.com)
   fo:=(aT _ _ AO).trans ((aT _ _ AO).trans c.fo)
   syn:=(aT _ _ AO).trans ((aT _ _ AO).trans c.syn)
   px:=fun s hs=>(aT _ _ AO).trans ((aT _ _ AO).trans (c.px s hs))
   wt:=fun s hs=>(aT _ _ AO).trans ((aT _ _ AO).trans (c.wt s hs))
   wai:=(aT _ _ AO).trans ((aT _ _ AO).trans c.wai)
   rep:=(aT _ _ AO).trans ((aT _ _ AO).trans c.rep) }
end
def Mem.row (m:Mem) (i:Nat) (v:Value) (k:Nat):Mem:={ m with cs:=m.cs.setIfInBounds k v,v:=fun j=>if j=i then v else m.v j }
theorem Mem.row_self (m:Mem) (i:Nat) (v:Value) (k:Nat):(m.row i v k).v i=v:=by simp[Mem.row]
section
variable {F F' : Nat → Prop} {w w1 : World} {G : Nat} {g : Eng} {fs : List (List Tn)} {m : Mem} {i k : Nat} {v : Value}
theorem Mem.fix_row (hi:i<4) (hv:∀ b,v.ownBlock=some b→(m.v i).ownBlock=some b∨w.heap.size≤b) {b:Nat} (hb:b<w.heap.size) (h:m.fix G b):(m.row i v k).fix G b:=by
 refine⟨h.1,fun n hn=>?_⟩
 show (if n=i then v else m.v n).ownBlock≠some b
 by_cases e:n=i
 ·rw[if_pos e]
  intro h9
  rcases hv b h9 with h8|h8
  ·exact h.2 i hi h8
  ·omega
 ·rw[if_neg e]
  exact h.2 n hn
theorem aP7.others {α:Type} {size:Nat} {R:(Nat→Prop)→World→List Value→α→Prop} {e:TypeId} {l:List α} (hR:bI R) (h:aP7 w G g fs m) (hi:i<4) {j:Nat} (hj:j<4) (hij:j≠i) (hs:aC (fun b=>(m.v i).ownBlock≠some b) w w1) (hv:∀ b,v.ownBlock=some b→(m.v i).ownBlock=some b∨w.heap.size≤b)
  (ho:Own size R (m.fix G) w 0 e (m.v j) l):Own size R ((m.row i v k).fix G) w1 0 e ((m.row i v k).v j) l:=by
 have hvj:(m.row i v k).v j=m.v j:=if_neg hij
 rw[hvj]
 exact ho.keep hR hs (fun b _ hf=>hf.2 i hi) (fun b hb hb'=>h.apart.two j i hj hi hij b hb hb') (fun b hb hf=>Mem.fix_row hi hv hb hf) zn
theorem Apart.row (h:Apart G m) (hl:∀ j b,j<4→(m.v j).ownBlock=some b→b<w.heap.size) (hi:i<4) (hv:∀ b,v.ownBlock=some b→(m.v i).ownBlock=some b∨w.heap.size≤b) (hvG:v.ownBlock≠some G):Apart G (m.row i v k):=by
 have hvi:∀ j,(m.row i v k).v j=if j=i then v else m.v j:=fun j=>rfl
 refine⟨fun j hj=>?_,fun j n hj hn hjn b hb=>?_⟩
 ·rw[hvi]
  by_cases e:j=i
  ·rw[if_pos e];exact hvG
  ·rw[if_neg e];exact h.own j hj
 ·rw[hvi] at hb ⊢
  by_cases e:j=i
  ·rw[if_pos e] at hb
   rw[if_neg (fun e'=>hjn (e.trans e'.symm))]
   intro h9
   rcases hv b hb with h8|h8
   ·exact h.two i n hi hn (fun e'=>hjn (e.trans e')) b h8 h9
   ·have:=hl n _ hn h9
    omega
  ·rw[if_neg e] at hb
   by_cases e2:n=i
   ·rw[if_pos e2]
    intro h9
    rcases hv b h9 with h8|h8
    ·exact h.two j i hj hi e b hb h8
    ·have:=hl j _ hj hb
     omega
   ·rw[if_neg e2];exact h.two j n hj hn hjn b hb
theorem bB6 {α:Type} {size:Nat} {R:(Nat→Prop)→World→List Value→α→Prop} {e:TypeId} {l:List α} (hR:bI R) (ho:Own size R (m.fix G) w1 0 e v l):Own size R ((m.row i v k).fix G) w1 0 e v l:=by
 obtain⟨xs,h1,h2⟩:=ho
 refine⟨xs,h1,fun j hj=>hR.less _ _ _ _ _ (fun b _ hs=>⟨⟨hs.1.1,fun n hn=>?_⟩,hs.2⟩) (h2 j hj)⟩
 show (if n=i then v else m.v n).ownBlock≠some b
 by_cases e:n=i
 ·rw[if_pos e];exact hs.2
 ·rw[if_neg e];exact hs.1.2 n hn
theorem aX.row0 (h:aX F w G g fs m) (hs:aC (fun b=>(m.v 0).ownBlock≠some b) w w1) (hv:∀ b,v.ownBlock=some b→(m.v 0).ownBlock=some b∨w.heap.size≤b) (hvG:v.ownBlock≠some G) {l:List Cm} (hown:Own 2 CmR ((m.row 0 v 3).fix G) w1 0 177 v l) (hF:∀ b,F' b→(F b∧b<w.heap.size)∨(w.heap.size≤b∧v.ownBlock≠some b)) :
  aX F' (w1.setCell ⟨G,3,none⟩ v) G { g with commits:=l } fs (m.row 0 v 3):=by
 have c:=h.cells
 have hblk:w1.heap[G]?=some (.cells m.cs 115 (0,0)):=(hs.block G (h.rows.apart.own 0 AO) h.lt).trans h.blk
 have hfix:∀ b,b<w.heap.size→m.fix G b→(m.row 0 v 3).fix G b:=fun b hb hf=>Mem.fix_row AO hv hb hf
 have hd:∀ {S:Nat→Prop},(∀ b,S b→m.fix G b)→aC S w w1:=fun hS=>⟨hs.size,fun b hb hl=>hs.block b ((hS b hb).2 0 AO) hl⟩
 have hrows:aP7 w1 G { g with commits:=l } fs (m.row 0 v 3) :=
  {dat:=((h.rows.dat.bless (S':=fun b=>m.fix G b∧(m.row 0 v 3).fix G b) fun b hb hf=>⟨hf,hfix b hb hf⟩).bsame (hd fun b hb=>hb.1)).bless fun b _ hf=>hf.2
   cap:=h.rows.cap
   com:=by show Own _ _ _ _ _ _ ((m.row 0 v 3).v 0) _;rw[Mem.row_self];exact hown
   fo:=h.rows.others foR_stays AO AO AO hs hv h.rows.fo
   wai:=h.rows.others naR_stays AO AO AO hs hv h.rows.wai
   rep:=h.rows.others rpR_stays AO AO AO hs hv h.rows.rep
   txs:=fun s hs'=>(((h.rows.txs s hs').less (S':=fun b=>m.fix G b∧(m.row 0 v 3).fix G b) fun b hb hf=>⟨hf,hfix b hb hf⟩).same (hd fun b hb=>hb.1)).less fun b _ hf=>hf.2
   apart:=h.rows.apart.row (fun j b hj hb=>h.rows.lts hj hb) AO hv hvG }
 exact
  {blk:=by rw[heap_setCell_same w1 G 3 m.cs _ v hblk];rfl
   cells :=
    {size:=by have:=c.size;simpa [Mem.row] using this
     up:=(aT _ _ AO).trans c.up
     data:=(aT _ _ AO).trans c.data
     safe:=(aT _ _ AO).trans c.safe
     com:=by show (m.cs.setIfInBounds 3 v)[3]?=some ((m.row 0 v 3).v 0);rw[Mem.row_self];exact bC6 _ _ (by rw[c.size];omega)
     fo:=(aT _ _ AO).trans c.fo
     syn:=(aT _ _ AO).trans c.syn
     px:=fun s hs=>(aT _ _ AO).trans (c.px s hs)
     wt:=fun s hs=>(aT _ _ AO).trans (c.wt s hs)
     wai:=(aT _ _ AO).trans c.wai
     rep:=(aT _ _ AO).trans c.rep }
   rows:=hrows.same (aD1 w1 G 3 v)
   fixF:=fun b hb=>(hF b hb).elim (fun h1=>hfix b h1.2 (h.fixF b h1.1)) fun h1=>by
    refine⟨fun e=>by have:=h.lt;omega,fun n hn=>?_⟩
    show (if n=0 then v else m.v n).ownBlock≠some b
    by_cases e:n=0
    ·rw[if_pos e];exact h1.2
    ·rw[if_neg e]
     intro h9
     have:=h.rows.lts hn h9
     omega }
theorem aX.row1 (h:aX F w G g fs m) (hs:aC (fun b=>(m.v 1).ownBlock≠some b) w w1) (hv:∀ b,v.ownBlock=some b→(m.v 1).ownBlock=some b∨w.heap.size≤b) (hvG:v.ownBlock≠some G) {l:List (List Tn)} (hown:Own 1 FoR ((m.row 1 v 4).fix G) w1 0 26 v l) (hF:∀ b,F' b→(F b∧b<w.heap.size)∨(w.heap.size≤b∧v.ownBlock≠some b)) :
  aX F' (w1.setCell ⟨G,4,none⟩ v) G g l (m.row 1 v 4):=by
 have c:=h.cells
 have hblk:w1.heap[G]?=some (.cells m.cs 115 (0,0)):=(hs.block G (h.rows.apart.own 1 AO) h.lt).trans h.blk
 have hfix:∀ b,b<w.heap.size→m.fix G b→(m.row 1 v 4).fix G b:=fun b hb hf=>Mem.fix_row AO hv hb hf
 have hd:∀ {S:Nat→Prop},(∀ b,S b→m.fix G b)→aC S w w1:=fun hS=>⟨hs.size,fun b hb hl=>hs.block b ((hS b hb).2 1 AO) hl⟩
 have hrows:aP7 w1 G g l (m.row 1 v 4) :=
  {dat:=((h.rows.dat.bless (S':=fun b=>m.fix G b∧(m.row 1 v 4).fix G b) fun b hb hf=>⟨hf,hfix b hb hf⟩).bsame (hd fun b hb=>hb.1)).bless fun b _ hf=>hf.2
   cap:=h.rows.cap
   com:=h.rows.others cmR_stays AO AO AO hs hv h.rows.com
   fo:=by show Own _ _ _ _ _ _ ((m.row 1 v 4).v 1) _;rw[Mem.row_self];exact hown
   wai:=h.rows.others naR_stays AO AO AO hs hv h.rows.wai
   rep:=h.rows.others rpR_stays AO AO AO hs hv h.rows.rep
   txs:=fun s hs'=>(((h.rows.txs s hs').less (S':=fun b=>m.fix G b∧(m.row 1 v 4).fix G b) fun b hb hf=>⟨hf,hfix b hb hf⟩).same (hd fun b hb=>hb.1)).less fun b _ hf=>hf.2
   apart:=h.rows.apart.row (fun j b hj hb=>h.rows.lts hj hb) AO hv hvG }
 exact
  {blk:=by rw[heap_setCell_same w1 G 4 m.cs _ v hblk];rfl
   cells :=
    {size:=by have:=c.size;simpa [Mem.row] using this
     up:=(aT _ _ AO).trans c.up
     data:=(aT _ _ AO).trans c.data
     safe:=(aT _ _ AO).trans c.safe
     com:=(aT _ _ AO).trans c.com
     fo:=by show (m.cs.setIfInBounds 4 v)[4]?=some ((m.row 1 v 4).v 1);rw[Mem.row_self];exact bC6 _ _ (by rw[c.size];omega)
     syn:=(aT _ _ AO).trans c.syn
     px:=fun s hs=>(aT _ _ AO).trans (c.px s hs)
     wt:=fun s hs=>(aT _ _ AO).trans (c.wt s hs)
     wai:=(aT _ _ AO).trans c.wai
     rep:=(aT _ _ AO).trans c.rep }
   rows:=hrows.same (aD1 w1 G 4 v)
   fixF:=fun b hb=>(hF b hb).elim (fun h1=>hfix b h1.2 (h.fixF b h1.1)) fun h1=>by
    refine⟨fun e=>by have:=h.lt;omega,fun n hn=>?_⟩
    show (if n=1 then v else m.v n).ownBlock≠some b
    by_cases e:n=1
    ·rw[if_pos e];exact h1.2
    ·rw[if_neg e]
     intro h9
     have:=h.rows.lts hn h9
     omega }
theorem aX.row2 (h:aX F w G g fs m) (hs:aC (fun b=>(m.v 2).ownBlock≠some b) w w1) (hv:∀ b,v.ownBlock=some b→(m.v 2).ownBlock=some b∨w.heap.size≤b) (hvG:v.ownBlock≠some G) {l:List Nat} (hown:Own 1 NaR ((m.row 2 v 22).fix G) w1 0 3 v l) (hF:∀ b,F' b→(F b∧b<w.heap.size)∨(w.heap.size≤b∧v.ownBlock≠some b)) :
  aX F' (w1.setCell ⟨G,22,none⟩ v) G { g with waiting:=l } fs (m.row 2 v 22):=by
 have c:=h.cells
 have hblk:w1.heap[G]?=some (.cells m.cs 115 (0,0)):=(hs.block G (h.rows.apart.own 2 AO) h.lt).trans h.blk
 have hfix:∀ b,b<w.heap.size→m.fix G b→(m.row 2 v 22).fix G b:=fun b hb hf=>Mem.fix_row AO hv hb hf
 have hd:∀ {S:Nat→Prop},(∀ b,S b→m.fix G b)→aC S w w1:=fun hS=>⟨hs.size,fun b hb hl=>hs.block b ((hS b hb).2 2 AO) hl⟩
 have hrows:aP7 w1 G { g with waiting:=l } fs (m.row 2 v 22) :=
  {dat:=((h.rows.dat.bless (S':=fun b=>m.fix G b∧(m.row 2 v 22).fix G b) fun b hb hf=>⟨hf,hfix b hb hf⟩).bsame (hd fun b hb=>hb.1)).bless fun b _ hf=>hf.2
   cap:=h.rows.cap
   com:=h.rows.others cmR_stays AO AO AO hs hv h.rows.com
   fo:=h.rows.others foR_stays AO AO AO hs hv h.rows.fo
   wai:=by show Own _ _ _ _ _ _ ((m.row 2 v 22).v 2) _;rw[Mem.row_self];exact hown
   rep:=h.rows.others rpR_stays AO AO AO hs hv h.rows.rep
   txs:=fun s hs'=>(((h.rows.txs s hs').less (S':=fun b=>m.fix G b∧(m.row 2 v 22).fix G b) fun b hb hf=>⟨hf,hfix b hb hf⟩).same (hd fun b hb=>hb.1)).less fun b _ hf=>hf.2
   apart:=h.rows.apart.row (fun j b hj hb=>h.rows.lts hj hb) AO hv hvG }
 exact
  {blk:=by rw[heap_setCell_same w1 G 22 m.cs _ v hblk];rfl
   cells :=
    {size:=by have:=c.size;simpa [Mem.row] using this
     up:=(aT _ _ AO).trans c.up
     data:=(aT _ _ AO).trans c.data
     safe:=(aT _ _ AO).trans c.safe
     com:=(aT _ _ AO).trans c.com
     fo:=(aT _ _ AO).trans c.fo
     syn:=(aT _ _ AO).trans c.syn
     px:=fun s hs=>(aT _ _ AO).trans (c.px s hs)
     wt:=fun s hs=>(aT _ _ AO).trans (c.wt s hs)
     wai:=by show (m.cs.setIfInBounds 22 v)[22]?=some ((m.row 2 v 22).v 2);rw[Mem.row_self];exact bC6 _ _ (by rw[c.size];omega)
     rep:=(aT _ _ AO).trans c.rep }
   rows:=hrows.same (aD1 w1 G 22 v)
   fixF:=fun b hb=>(hF b hb).elim (fun h1=>hfix b h1.2 (h.fixF b h1.1)) fun h1=>by
    refine⟨fun e=>by have:=h.lt;omega,fun n hn=>?_⟩
    show (if n=2 then v else m.v n).ownBlock≠some b
    by_cases e:n=2
    ·rw[if_pos e];exact h1.2
    ·rw[if_neg e]
     intro h9
     have:=h.rows.lts hn h9
     omega }
theorem aX.row3 (h:aX F w G g fs m) (hs:aC (fun b=>(m.v 3).ownBlock≠some b) w w1) (hv:∀ b,v.ownBlock=some b→(m.v 3).ownBlock=some b∨w.heap.size≤b) (hvG:v.ownBlock≠some G) {l:List Rp} (hown:Own 15 RpR ((m.row 3 v 23).fix G) w1 0 57 v l) (hF:∀ b,F' b→(F b∧b<w.heap.size)∨(w.heap.size≤b∧v.ownBlock≠some b)) :
  aX F' (w1.setCell ⟨G,23,none⟩ v) G { g with replies:=l } fs (m.row 3 v 23):=by
 have c:=h.cells
 have hblk:w1.heap[G]?=some (.cells m.cs 115 (0,0)):=(hs.block G (h.rows.apart.own 3 AO) h.lt).trans h.blk
 have hfix:∀ b,b<w.heap.size→m.fix G b→(m.row 3 v 23).fix G b:=fun b hb hf=>Mem.fix_row AO hv hb hf
 have hd:∀ {S:Nat→Prop},(∀ b,S b→m.fix G b)→aC S w w1:=fun hS=>⟨hs.size,fun b hb hl=>hs.block b ((hS b hb).2 3 AO) hl⟩
 have hrows:aP7 w1 G { g with replies:=l } fs (m.row 3 v 23) :=
  {dat:=((h.rows.dat.bless (S':=fun b=>m.fix G b∧(m.row 3 v 23).fix G b) fun b hb hf=>⟨hf,hfix b hb hf⟩).bsame (hd fun b hb=>hb.1)).bless fun b _ hf=>hf.2
   cap:=h.rows.cap
   com:=h.rows.others cmR_stays AO AO AO hs hv h.rows.com
   fo:=h.rows.others foR_stays AO AO AO hs hv h.rows.fo
   wai:=h.rows.others naR_stays AO AO AO hs hv h.rows.wai
   rep:=by show Own _ _ _ _ _ _ ((m.row 3 v 23).v 3) _;rw[Mem.row_self];exact hown
   txs:=fun s hs'=>(((h.rows.txs s hs').less (S':=fun b=>m.fix G b∧(m.row 3 v 23).fix G b) fun b hb hf=>⟨hf,hfix b hb hf⟩).same (hd fun b hb=>hb.1)).less fun b _ hf=>hf.2
   apart:=h.rows.apart.row (fun j b hj hb=>h.rows.lts hj hb) AO hv hvG }
 exact
  {blk:=by rw[heap_setCell_same w1 G 23 m.cs _ v hblk];rfl
   cells :=
    {size:=by have:=c.size;simpa [Mem.row] using this
     up:=(aT _ _ AO).trans c.up
     data:=(aT _ _ AO).trans c.data
     safe:=(aT _ _ AO).trans c.safe
     com:=(aT _ _ AO).trans c.com
     fo:=(aT _ _ AO).trans c.fo
     syn:=(aT _ _ AO).trans c.syn
     px:=fun s hs=>(aT _ _ AO).trans (c.px s hs)
     wt:=fun s hs=>(aT _ _ AO).trans (c.wt s hs)
     wai:=(aT _ _ AO).trans c.wai
     rep:=by show (m.cs.setIfInBounds 23 v)[23]?=some ((m.row 3 v 23).v 3);rw[Mem.row_self];exact bC6 _ _ (by rw[c.size];omega) }
   rows:=hrows.same (aD1 w1 G 23 v)
   fixF:=fun b hb=>(hF b hb).elim (fun h1=>hfix b h1.2 (h.fixF b h1.1)) fun h1=>by
    refine⟨fun e=>by have:=h.lt;omega,fun n hn=>?_⟩
    show (if n=3 then v else m.v n).ownBlock≠some b
    by_cases e:n=3
    ·rw[if_pos e];exact h1.2
    ·rw[if_neg e]
     intro h9
     have:=h.rows.lts hn h9
     omega }
end
structure EnvF (F:Nat→Prop) (w:World):Prop where
 tabs:bD w
 has:bL w
 f0:F 8
 f1:F 6
 f2:F 7
 f3:F 0
theorem bL.bsame {S:Nat→Prop} {w w':World} (h:bL w) (hb:aC S w w') (hS:S 0):bL w':=fun k hk=>(hb.cell hS (World.block_lt_of_cell? w _ (h k hk))).trans (h k hk)
theorem EnvF.same {F:Nat→Prop} {w w':World} (h:EnvF F w) (hb:aC F w w'):EnvF F w':=⟨h.tabs.bsame hb ⟨h.f0,h.f1,h.f2⟩,h.has.bsame hb h.f3,h.f0,h.f1,h.f2,h.f3⟩
theorem EnvF.more {F F':Nat→Prop} {w:World} (h:EnvF F w) (hF:∀ b,F b→F' b):EnvF F' w:=⟨h.tabs,h.has,hF _ h.f0,hF _ h.f1,hF _ h.f2,hF _ h.f3⟩
structure Srv (F:Nat→Prop) (w:World) (G:Nat) (g:Eng) (n:Nat):Prop where
 eng:EngR F w G g
 env:EnvF F w
 inv:Inv g n
 low:∀ b,F b→b<w.heap.size
def aO (F:Nat→Prop) (w:World) (G:Nat) (g':Eng) (n':Nat) (v:Value) (e:Ending) (w':World):Prop :=
 e=.returned v∧Srv F w' G g' n'∧aC F w w'∧Below 0 w w'
def Fx (F:Nat→Prop) (w w':World) (b:Nat):Prop:=F b∨(w.heap.size≤b∧b<w'.heap.size)
section
variable {F F' : Nat → Prop} {w w' w1 : World} {G : Nat} {g g' : Eng} {n n' : Nat}
theorem Srv.below (h:Srv F w G g n) (hb:Below w.heap.size w w'):Srv (Fx F w w') w' G g n :=
 ⟨h.eng.below hb fun b hb=>hb.elim .inl fun h=>.inr h.1,(h.env.same (aC.of_below hb)).more fun b hb=>.inl hb,h.inv,fun b hx=>hx.elim (fun h1=>Nat.lt_of_lt_of_le (h.low b h1) hb.size) fun h1=>h1.2⟩
theorem Srv.less (h:Srv F' w G g n) (he:EnvF F w) (hF:∀ b,F b→F' b):Srv F w G g n :=
 ⟨let ⟨m,hm⟩:=h.eng;⟨m,{ hm with fixF:=fun b hb=>hm.fixF b (hF b hb) }⟩,he,h.inv,fun b hb=>h.low b (hF b hb)⟩
theorem Srv.mono (h:Srv F w G g n) (hn:n≤n'):Srv F w G g n':=⟨h.eng,h.env,h.inv.mono hn,h.low⟩
theorem aC.lessF (h:aC F' w w') (hF:∀ b,F b→F' b):aC F w w':=⟨h.size,fun k hk hl=>h.block k (hF k hk) hl⟩
theorem aU0 {k:Nat} (h:Below k w w'):Below 0 w w':=⟨h.os,h.tape,h.output,h.size,fun _ hk=>absurd hk AO⟩
theorem aO.from {v:Value} {e:Ending} (h0:Srv F w G g n) (hb:Below w.heap.size w w1) (h:aO (Fx F w w1) w1 G g' n' v e w'):aO F w G g' n' v e w':=by
 obtain⟨h1,h2,h3,h4⟩:=h
 have hs:aC F w w':=(aC.of_below hb).trans (h3.lessF fun b hb=>.inl hb)
 exact⟨h1,h2.less (h0.env.same hs) fun b hb=>.inl hb,hs,(aU0 hb).trans h4⟩
theorem cH9 {A:Option Addr} {l:List UInt8} (h:Bs (aB w.heap.size) w' A l):Bs (Fx F w w') w' A l:=h.bless fun b hb h=>.inr ⟨h,hb⟩
end
theorem info_rp:(Tryz.prog.info? 57).map (fun i=>(i.zero.map fun z=>z.cells.size,i.size,i.bytes))=some (some 15,15,264):=by kernel_rfl
theorem rp_parts:∃ i z,Tryz.prog.info? 57=some i∧i.zero=some z∧i.size=15∧i.bytes=264∧z.cells.size=15:=by
 have h:=info_rp
 cases hi:Tryz.prog.info? 57 with
 | none=>rw[hi] at h;cases h
 | some i =>
  rw[hi] at h
  simp only[Option.map_some,Option.some.injEq,Prod.mk.injEq,Option.map_eq_some_iff] at h
  obtain⟨⟨z,hz,hc⟩,h2,h3⟩:=h
  exact⟨i,z,rfl,hz,h2,h3,hc⟩
theorem aP6 {α:Type} {size:Nat} {R:(Nat→Prop)→World→List Value→α→Prop} {S:Nat→Prop} {w:World} {base:Nat} {e:TypeId} {v:Value} {l:List α} (h:Own size R S w base e v l):∃ A c,v=.slice A l.length c:=by
 obtain⟨xs,h1,_⟩:=h
 rcases h1.2 with ⟨rfl,h0⟩|⟨g,cap,cur,rfl,_⟩
 ·exact⟨none,0,by rw[h0]⟩
 ·exact⟨_,_,rfl⟩
theorem aP3 {F:Nat→Prop} {w W w1:World} {G k:Nat} {o:Option Nat} {v:Value} (hlow:∀ b,F b→b<w.heap.size) (hW:Below w.heap.size w W) (hg:W.grownBy w1 o) (ho:∀ b,F b→o≠some b) (hG:∀ b,F b→b≠G):aC F w (w1.setCell ⟨G,k,none⟩ v)∧Below 0 w (w1.setCell ⟨G,k,none⟩ v):=by
 have h1:aC F w w1:=aC.grown (aC.of_below hW) hg fun b hb hF=>ho b hF hb
 refine⟨h1.setCell (p:=⟨G,k,none⟩) (fun hF=>hG G hF rfl) v,?_⟩
 have h2:Below 0 w w1:=⟨hg.os.trans hW.os,hg.tape.trans hW.tape,hg.output.trans hW.output,Nat.le_trans hW.size hg.size,fun _ hk=>absurd hk AO⟩
 exact h2.setCell (p:=⟨G,k,none⟩) (Nat.zero_le _) v
theorem cW0 {w W w1:World} {G i:Nat} {o:Option Nat} {v:Value} {cs:Array Value} {t:TypeId} (hi:i≠23) (hb:w.heap[G]?=some (.cells cs t (0,0))) (hW:Below w.heap.size w W) (hg:W.grownBy w1 o) (ho:o≠some G):(w1.setCell ⟨G,23,none⟩ v).cell? ⟨G,i,none⟩=w.cell? ⟨G,i,none⟩:=by
 have hG:=(Array.getElem?_eq_some_iff.1 hb).1
 have h1:w1.heap[G]?=some (.cells cs t (0,0)):=(hg.block G (Nat.lt_of_lt_of_le hG hW.size) (fun e=>ho e.symm)).trans ((hW.block G hG).trans hb)
 rw[cell_of_row w G i _ t (0,0) hb,cell_of_row _ G i _ t (0,0) (heap_setCell_same w1 G 23 cs t v h1)]
 exact aT _ _ (Ne.symm hi)
theorem say_end {F : Nat → Prop} {w W w1 : World} {G n : Nat} {g : Eng} {r : Rp} {m : Mem} {v : Value} (H : Srv F w G g n) (Hm : aX F w G g g.forests m) (hW : Below w.heap.size w W) (hown : Own 15 RpR (m.fix G) w1 0 57 v (g.replies ++ [r])) (hg : W.grownBy w1 (m.v 3).ownBlock) (hat : v.ownBlock = (m.v 3).ownBlock ∨ v.ownBlock = some W.heap.size) :
    aO F w G (g.say r) (n + 1) (.tuple #[]) (.returned (.tuple #[])) (w1.setCell ⟨G, 23, none⟩ v) := by
  have hmW : aX F W G g g.forests m := Hm.below hW fun b hb => .inl hb
  have hr := hmW.row3 (F' := F) (w1 := w1) (v := v) (l := g.replies ++ [r]) (aC.grown (aC.refl _ _) hg fun b hb hs => hs hb)
    (fun b hb => by rcases hat with h | h
                    · rw [h] at hb; exact .inl hb
                    · rw [h] at hb; cases hb; exact .inr zn)
    (by rcases hat with h | h
        · rw [h]; exact hmW.rows.apart.own 3 AO
        · rw [h]; intro e; cases e; have := hmW.lt; omega)
    (bB6 rpR_stays hown) (fun b hb => .inl ⟨hb, Nat.lt_of_lt_of_le (H.low b hb) hW.size⟩)
  obtain ⟨h1, h2⟩ := aP3 (G := G) (k := 23) (v := v) H.low hW hg (fun b hF => (Hm.fixF b hF).2 3 AO) (fun b hF => (Hm.fixF b hF).1)
  exact ⟨rfl, ⟨⟨_, hr⟩, H.env.same h1, H.inv.say r, fun b hb => Nat.lt_of_lt_of_le (H.low b hb) h1.size⟩, h1, h2⟩
theorem aT1 (F:Nat→Prop) (w:World) (G:Nat) (g:Eng) (n:Nat) (r:Rp) (cs:List Value) (h:Srv F w G g n) (hr:RpR F w cs r) (hn:n<200000) :
  Calls Tryz.prog 119 #[.pointer (some ⟨G,0,none⟩),.agg cs.toArray] w (fun e w'=>aO F w G (g.say r) (n+1) (.tuple #[]) e w'∧∀ i,i≠23→w'.cell? ⟨G,i,none⟩=w.cell? ⟨G,i,none⟩):=by
 obtain⟨i0,z0,hi0,hz0,hz1,hz2,hz3⟩:=rp_parts
 obtain⟨m,hm⟩:=h.eng
 have Hr:=zh hr
 have H:=zh h
 have Hm:=zh hm
 have c23:w.cell? ⟨G,23,none⟩=some (m.v 3):=(hm.cell 23).trans hm.cells.rep
 have hG:=hm.lt
 obtain⟨V,v,P,p,R,q,A,na,K,a,X,b,A1,nb,K1,a1,X1,b1,hcs,_⟩:=hr
 have hlen:g.replies.length+1≤200000:=by have:=h.inv.told;omega
 subst hcs
 clear h hm
 go_enter Tryz.func119,Tryz.ntmps119
 go_wp2_with fail
 go_region_law (refine aW5 rpR_stays (S:=m.fix G) _ rfl (.tmp 8) (.tmp 10) _ rfl 0 57 i0 z0 15 264 Tryz.underlying27 hi0 hz0 hz1 hz2 hz3 ZD9 (m.v 3) g.replies ?hs ?hown (some ⟨w.heap.size+1,0,none⟩) 1 [.int .i64 r.session,.int .i64 r.code,.int .i64 r.turn,.bool r.found,.slice V r.value.length v,.slice P r.pairs.length p,.slice R r.root.length q,.bool r.outer.empty,.slice A r.outer.steps.length na,.slice K r.outer.pair.1.length a,.slice X r.outer.pair.2.length b,.bool r.inner.empty,.slice A1 r.inner.steps.length nb,.slice K1 r.inner.pair.1.length a1,.slice X1 r.inner.pair.2.length b1] ?hx rfl ?hsrc ZE8 ?hm ?hby (Nat.zero_le _) r ?hd ?_;(case hs=>(simp[Act.eval,Act.put]));(case hx=>(simp[Act.eval,Act.put]));(case hsrc=>exact aE6 _ _ [.int .i64 r.session,.int .i64 r.code,.int .i64 r.turn,.bool r.found,.slice V r.value.length v,.slice P r.pairs.length p,.slice R r.root.length q,.bool r.outer.empty,.slice A r.outer.steps.length na,.slice K r.outer.pair.1.length a,.slice X r.outer.pair.2.length b,.bool r.inner.empty,.slice A1 r.inner.steps.length nb,.slice K1 r.inner.pair.1.length a1,.slice X1 r.inner.pair.2.length b1] _ ZH2);(case hown=>(refine Own.below rpR_stays Hm.out.rows.rep ?_;exact BE));(case hm=>(simp only[maxLen];omega));(case hby=>omega);(case hd=>(refine rpR_stays.same _ w _ _ _ (aC.of_below ?_) (rpR_stays.less _ _ _ _ _ (fun b _ hF=>⟨Hm.out.fixF b hF,(Hm.out.fixF b hF).2 3 AO⟩) Hr.out);exact BE));intro v' w1 hown1 hb1 hg1 hat1;obtain⟨VA,vc,rfl⟩:=aP6 hown1;have HmW:=zh (Hm.out.below (F':=F) (w':=((w.alloc (.cells #[.int .i64 r.session,.int .i64 r.code,.int .i64 r.turn,.bool r.found,.slice V r.value.length v,.slice P r.pairs.length p,.slice R r.root.length q,.bool r.outer.empty,.slice A r.outer.steps.length na,.slice K r.outer.pair.1.length a,.slice X r.outer.pair.2.length b,.bool r.inner.empty,.slice A1 r.inner.steps.length nb,.slice K1 r.inner.pair.1.length a1,.slice X1 r.inner.pair.2.length b1] 57)).alloc (.cells #[.int .i64 r.session,.int .i64 r.code,.int .i64 r.turn,.bool r.found,.slice V r.value.length v,.slice P r.pairs.length p,.slice R r.root.length q,.bool r.outer.empty,.slice A r.outer.steps.length na,.slice K r.outer.pair.1.length a,.slice X r.outer.pair.2.length b,.bool r.inner.empty,.slice A1 r.inner.steps.length nb,.slice K1 r.inner.pair.1.length a1,.slice X1 r.inner.pair.2.length b1] 57))) BE (fun b hb=>.inl hb));have k0:=(World.cell?_of_block (a:=⟨G,23,none⟩) (hg1.block G HmW.out.lt (fun e=>HmW.out.rows.apart.own 3 AO e.symm))).trans ((HmW.out.cell 23).trans HmW.out.cells.rep);have f0:=(World.frozen?_of_block (a:=⟨G,23,none⟩) (hg1.block G HmW.out.lt (fun e=>HmW.out.rows.apart.own 3 AO e.symm))).trans (HmW.out.frozen 23);have hG1:G<w1.heap.size:=Nat.lt_of_lt_of_le HmW.out.lt hg1.size)
 all_goals
  go_wp2
  refine bodyPost_end (v:=.tuple #[]) (by simp[results,Tryz.results119,go_sem]) rfl ?_
  rw[show (g.replies++[r]).length=g.replies.length+1 by simp] at hown1 hat1
  refine⟨say_end H.out Hm.out ?_ hown1 hg1 hat1,fun i hi=>cW0 hi Hm.out.blk ?_ hg1 (Hm.out.rows.apart.own 3 AO)⟩
  all_goals exact BE
theorem bG5 (F:Nat→Prop) (w:World) (G:Nat) (g:Eng) (n:Nat) (r:Rp) (cs:List Value) (h:Srv F w G g n) (hr:RpR F w cs r) (hn:n<200000) :
  Calls Tryz.prog 119 #[.pointer (some ⟨G,0,none⟩),.agg cs.toArray] w (aO F w G (g.say r) (n+1) (.tuple #[])) :=
 (aT1 F w G g n r cs h hr hn).mono fun _ _ h=>h.1
theorem aO.less {F F':Nat→Prop} {w w':World} {G n0 n:Nat} {g0 g:Eng} {v:Value} {e:Ending} (h0:Srv F w G g0 n0) (hF:∀ b,F b→F' b) (h:aO F' w G g n v e w'):aO F w G g n v e w':=by
 obtain⟨h1,h2,h3,h4⟩:=h
 have hs:=h3.lessF hF
 exact⟨h1,h2.less (h0.env.same hs) hF,hs,h4⟩
theorem bL8 {S:Nat→Prop} {w:World} (s c t:Int):RpR S w [.int .i64 s,.int .i64 c,.int .i64 t,.bool false,.slice none 0 0,.slice none 0 0,.slice none 0 0,.bool false,.slice none 0 0,.slice none 0 0,.slice none 0 0,.bool false,.slice none 0 0,.slice none 0 0,.slice none 0 0] { rp0 with session:=s,code:=c,turn:=t } :=
 ⟨none,0,none,0,none,0,none,0,none,0,none,0,none,0,none,0,none,0,rfl,SL.nil,SL.nil,SL.nil,⟨SL.nil,SL.nil,SL.nil⟩,SL.nil,SL.nil,SL.nil⟩
theorem aF2 (F:Nat→Prop) (w:World) (G:Nat) (g:Eng) (n:Nat) (s:Nat) (c:Int) (h:Srv F w G g n) (hn:n<200000) :
  Calls Tryz.prog 117 #[.pointer (some ⟨G,0,none⟩),.int .i64 (s:Int),.int .i64 c] w (aO F w G (g.say (aE4 s c)) (n+1) (.tuple #[])):=by
 have hr:=bG5 F w G g n (aE4 s c) _ h (bL8 s c 0) hn
 go_enter Tryz.func117,Tryz.ntmps117
 go_wp2_with (go_at_call 119;(with_reducible refine hr.mono ?_);rintro e w1 ⟨rfl,hp⟩)
 refine bodyPost_end (v:=.tuple #[]) (by simp[results,Tryz.results117,go_sem]) rfl ⟨rfl,hp⟩
theorem read_len {r:Rq} (h1:r.name.length≤big) (h2:r.key.length≤big) (h3:r.last.length≤big):(aG1 r).1.name.length≤big∧(aG1 r).1.key.length≤big∧(aG1 r).1.value.length≤big:=by
 unfold aG1
 split
 ·exact⟨Nat.zero_le _,Nat.zero_le _,Nat.zero_le _⟩
 ·split
  ·exact⟨h1,h2,h3⟩
  ·exact⟨Nat.zero_le _,Nat.zero_le _,Nat.zero_le _⟩
theorem bK2 {w:World} {g:Nat} {t:TypeId} {a b c:Value} (h:w.heap[g]?=some (.cells #[a,b,c] t (0,0))):w.cell? ⟨g,0,none⟩=some a∧w.cell? ⟨g,1,none⟩=some b∧w.cell? ⟨g,2,none⟩=some c :=
 ⟨aA h 0,aA h 1,aA h 2⟩
theorem aX.txn_at {F:Nat→Prop} {w:World} {G:Nat} {g:Eng} {fs:List (List Tn)} {m:Mem} (h:aX F w G g fs m) {s:Nat} (hs:s<8) {t:Tx} (ht:(g.at s).txn=some t) :
  ∃ b A n B k,w.cell? ⟨G,6+s*2,none⟩=some (.pointer (some ⟨b,0,none⟩))∧m.fix G b∧w.heap[b]?=some (.cells #[.int .i64 t.start,.slice A t.reads.length n,.slice B t.writes.length k] 98 (0,0))∧t.reads.length≤n∧t.writes.length≤k∧Ws (m.fix G) w A t.reads∧Ws (m.fix G) w B t.writes:=by
 have h1:=h.rows.txs s hs
 rw[ht] at h1
 obtain⟨b,A,n,B,k,hp,h2,h3,h4,h5,h6,h7⟩:=h1
 exact⟨b,A,n,B,k,by rw[h.cell,h.cells.px s hs,hp];rfl,h2,h3,h4,h5,h6,h7⟩
structure bB7 (w0 WF:World) (nb:Nat) (cs:List Value) (T:TypeId):Prop where
 b:Below w0.heap.size w0 WF
 lo:w0.heap.size≤nb
 box:WF.heap[nb]?=some (.cells cs.toArray T (0,0))
theorem bK3 {P:World→Prop} (W:World) (h:∀ WF,W=WF→P WF):P W:=h W rfl
theorem cB8 {F:Nat→Prop} {w WF:World} {G n n' s nb:Nat} {g:Eng} {m:Mem} {x:Tx} {A B:Option Addr} {a b:Nat} (H:Srv F w G g n) (Hm:aX F w G g g.forests m) (hs:s<8) (hwF:Below w.heap.size w WF) (hlo:w.heap.size≤nb)
  (hbox:WF.heap[nb]?=some (.cells [.int .i64 x.start,.slice A x.reads.length a,.slice B x.writes.length b].toArray 98 (0,0))) (ha:x.reads.length≤a) (hb:x.writes.length≤b) (hr:Ws (aB w.heap.size) WF A x.reads) (hw:Ws (aB w.heap.size) WF B x.writes)
  (hx:aN x=0∧x.start≤(g.synced:Int)) (hn:n≤n') (v:Value):aO F w G (g.txn s (some x)) n' v (.returned v) (WF.setCell ⟨G,6+s*2,none⟩ (.pointer (some ⟨nb,0,none⟩))):=by
 have hmF:aX F WF G g g.forests m:=Hm.below hwF fun b hb=>.inl hb
 have ht:bL1 (m.fix G) WF (some nb) (some x):=⟨nb,A,a,B,b,rfl,Hm.fresh hlo,hbox,ha,hb,hr.less wrR_stays (fun b _ h=>Hm.fresh h),hw.less wrR_stays (fun b _ h=>Hm.fresh h)⟩
 have h1:=hmF.setTxn H.inv.sess hs (some nb) (some x) ht
 have h2:aC F w (WF.setCell ⟨G,6+s*2,none⟩ (.pointer (some ⟨nb,0,none⟩))):=(aC.of_below hwF).setCell (p:=⟨G,6+s*2,none⟩) (fun hF=>(Hm.fixF G hF).1 rfl) _
 exact⟨rfl,⟨⟨_,h1⟩,H.env.same h2,(H.inv.setTxn hs (some x) fun y e=>by cases e;exact hx).mono hn,fun b hb=>Nat.lt_of_lt_of_le (H.low b hb) h2.size⟩,h2,(aU0 hwF).setCell (p:=⟨G,6+s*2,none⟩) (Nat.zero_le _) _⟩
theorem aV3 {F:Nat→Prop} {w WF:World} {G n s:Nat} {g:Eng} {m:Mem} (H:Srv F w G g n) (Hm:aX F w G g g.forests m) (hs:s<8) (hwF:Below w.heap.size w WF) (v:Value):aO F w G (g.txn s none) n v (.returned v) (WF.setCell ⟨G,6+s*2,none⟩ (.pointer none)):=by
 have hmF:aX F WF G g g.forests m:=Hm.below hwF fun b hb=>.inl hb
 have h1:=hmF.setTxn H.inv.sess hs none none rfl
 have h2:aC F w (WF.setCell ⟨G,6+s*2,none⟩ (.pointer none)):=(aC.of_below hwF).setCell (p:=⟨G,6+s*2,none⟩) (fun hF=>(Hm.fixF G hF).1 rfl) _
 exact⟨rfl,⟨⟨_,h1⟩,H.env.same h2,H.inv.drop hs,fun b hb=>Nat.lt_of_lt_of_le (H.low b hb) h2.size⟩,h2,(aU0 hwF).setCell (p:=⟨G,6+s*2,none⟩) (Nat.zero_le _) _⟩
def aV4 (g:Eng) (s:Nat) (t:Tx) (r:Rq) (n:Nat):Nat:=if (aE8 g s t r).2=true then n else n+1
theorem aX4 (F:Nat→Prop) (w:World) (G:Nat) (g:Eng) (n:Nat) (s:Nat) (t:Tx) (r:Rq) (cs:List Value) (h:Srv F w G g n) (hs:s<8) (ht:(g.at s).txn=some t) (hr:RqR F w cs r) (hn:n<200000) :
  Calls Tryz.prog 175 #[.pointer (some ⟨G,0,none⟩),.int .i64 (s:Int),.pointer (some ⟨G,6+s*2,none⟩),.agg cs.toArray] w (aO F w G (aE8 g s t r).1 (aV4 g s t r n) (.bool (aE8 g s t r).2)):=by
 obtain⟨m,hm⟩:=h.eng
 obtain⟨A,a,B,b,C,c,D,d,rfl,r1,r2,r3,r4,l1,l2,l3,l4⟩:=hr
 obtain⟨tb,X,xn,Y,yn,k0,hfb,hbx,hxn,hyn,hX,hY⟩:=hm.txn_at hs ht
 obtain⟨z1,z2,z3⟩:=read_len l1 l2 l3
 obtain⟨q,qe,hq⟩:∃ q qe,aG1 r=(q,qe):=⟨_,_,rfl⟩
 rw[hq] at z1 z2 z3
 dsimp only at z1 z2 z3
 obtain⟨x,e,hxe⟩:∃ x e,aH7 t q=(x,e):=⟨_,_,rfl⟩
 have hG:=hm.lt
 have htb:=(Array.getElem?_eq_some_iff.1 hbx).1
 obtain⟨b0,b1,b2⟩:=bK2 hbx
 have H:=zh h
 have Hm:=zh hm
 have R1:=zh r1.bz
 have R2:=zh r2.bz
 have R3:=zh r3.bz
 have HX:=zh (hX.z wrR_stays)
 have HY:=zh (hY.z wrR_stays)
 have Hv:=zh (show aE8 g s t r=if e≠0 then (g.say (aE4 s e),false) else (g.txn s (some x),true) by unfold aE8;rw[hq,hxe])
 have Hq:=zh hq
 have Hxe:=zh hxe
 have Ht:=zh ht
 clear h hm r1 r2 r3 r4 hX hY hq hxe hbx ht hfb
 go_enter Tryz.func175,Tryz.ntmps175
 go_wp2_with (go_at_call 229;(with_reducible refine (cH3 _ ?hT A B C D r a b c d ?h1 ?h2 ?h3 l1 l2 l3).mono ?_);(case hT=>(refine H.out.env.has.below ?_;exact BE));(case h1=>(refine R1.out.bbelow ?_;exact BE));(case h2=>(refine R2.out.bbelow ?_;exact BE));(case h3=>(refine R3.out.bbelow ?_;exact BE));rw[Hq.out];rintro e1 w1 ⟨P1,p1,Q1,q1,V1,v1,rfl,sp,sq,sv,hb1⟩)
 have hw1:Below w.heap.size w w1:=Below.next ((Below.refl _ _).alloc zn _) hb1 AU
 have hz1:w.heap.size<w1.heap.size:=by have:=hb1.size;simp at this;omega
 have hX1:w1.heap.size<(w1.alloc (.cells #[.slice P1 q.name.length p1,.slice Q1 q.key.length q1,.bool q.flag,.slice V1 q.value.length v1] 204)).heap.size:=by simp
 have hw2:Below w.heap.size w (w1.alloc (.cells #[.slice P1 q.name.length p1,.slice Q1 q.key.length q1,.bool q.flag,.slice V1 q.value.length v1] 204)):=hw1.alloc hw1.size _
 have p0:=(hw2.cell (p:=⟨G,6+s*2,none⟩) hG).trans k0
 have t0:=(hw2.cell (p:=⟨tb,0,none⟩) htb).trans b0
 have t1:=(hw2.cell (p:=⟨tb,1,none⟩) htb).trans b1
 have t2:=(hw2.cell (p:=⟨tb,2,none⟩) htb).trans b2
 have xb:=aK w1 #[.slice P1 q.name.length p1,.slice Q1 q.key.length q1,.bool q.flag,.slice V1 q.value.length v1] 204
 have x0:=aA xb 0
 have x1:=aA xb 1
 have x2:=aA xb 2
 have x3:=aA xb 3
 simp only[List.getElem?_cons_zero,List.getElem?_cons_succ] at x0 x1 x2 x3
 have hGl:G<(w1.alloc (.cells #[.slice P1 q.name.length p1,.slice Q1 q.key.length q1,.bool q.flag,.slice V1 q.value.length v1] 204)).heap.size:=by have:=hw1.size;simp;omega
 have htl:tb<(w1.alloc (.cells #[.slice P1 q.name.length p1,.slice Q1 q.key.length q1,.bool q.flag,.slice V1 q.value.length v1] 204)).heap.size:=by have:=hw1.size;simp;omega
 have SP:=zh (sp.bz.bsame ((aC.refl _ w1).alloc (.cells #[.slice P1 q.name.length p1,.slice Q1 q.key.length q1,.bool q.flag,.slice V1 q.value.length v1] 204)))
 have SQ:=zh (sq.bz.bsame ((aC.refl _ w1).alloc (.cells #[.slice P1 q.name.length p1,.slice Q1 q.key.length q1,.bool q.flag,.slice V1 q.value.length v1] 204)))
 have SV:=zh (sv.bz.bsame ((aC.refl _ w1).alloc (.cells #[.slice P1 q.name.length p1,.slice Q1 q.key.length q1,.bool q.flag,.slice V1 q.value.length v1] 204)))
 have HX1:=zh (HX.out.below wrR_stays hw2)
 have HY1:=zh (HY.out.below wrR_stays hw2)
 have Hw2:=zh hw2
 clear hb1 hw1 hz1 hw2 xb sp sq sv b0 b1 b2 k0
 obtain⟨w2,hw2⟩:∃ w2,w2=w1.alloc (.cells #[.slice P1 q.name.length p1,.slice Q1 q.key.length q1,.bool q.flag,.slice V1 q.value.length v1] 204):=⟨_,rfl⟩
 rw[← hw2] at p0 t0 t1 t2 x0 x1 x2 x3 hX1 hGl htl SP SQ SV HX1 HY1 Hw2 ⊢
 clear hw2
 obtain⟨xn1,hxn1⟩:∃ xb,xb=w1.heap.size:=⟨_,rfl⟩
 rw[← hxn1] at x0 x1 x2 x3 hX1 ⊢
 clear hxn1
 go_region_held3 (fun w'=>w'.cell? ⟨G,6+s*2,none⟩=some (.pointer (some ⟨tb,0,none⟩))∧w'.cell? ⟨tb,0,none⟩=some (.int .i64 t.start)∧w'.cell? ⟨tb,1,none⟩=some (.slice X t.reads.length xn)∧w'.cell? ⟨tb,2,none⟩=some (.slice Y t.writes.length yn)∧w'.cell? ⟨xn1,0,none⟩=some (.slice P1 q.name.length p1)∧w'.cell? ⟨xn1,1,none⟩=some (.slice Q1 q.key.length q1)∧w'.cell? ⟨xn1,2,none⟩=some (.bool q.flag)∧w'.cell? ⟨xn1,3,none⟩=some (.slice V1 q.value.length v1))
  (first
   | go_keep
   | exact⟨(H3.out.cell hGl).trans p0,(H3.out.cell htl).trans t0,(H3.out.cell htl).trans t1,(H3.out.cell htl).trans t2,(H3.out.cell hX1).trans x0,(H3.out.cell hX1).trans x1,(H3.out.cell hX1).trans x2,(H3.out.cell hX1).trans x3⟩
   | exact⟨((H3.out.alloc H3.out.size _).cell hGl).trans p0,((H3.out.alloc H3.out.size _).cell htl).trans t0,((H3.out.alloc H3.out.size _).cell htl).trans t1,((H3.out.alloc H3.out.size _).cell htl).trans t2,((H3.out.alloc H3.out.size _).cell hX1).trans x0,((H3.out.alloc H3.out.size _).cell hX1).trans x1,((H3.out.alloc H3.out.size _).cell hX1).trans x2,((H3.out.alloc H3.out.size _).cell hX1).trans x3⟩
   | exact⟨((((H3.out.setCell hz.2 _).setCell hz.2 _).setCell hz.2 _).cell hGl).trans p0,((((H3.out.setCell hz.2 _).setCell hz.2 _).setCell hz.2 _).cell htl).trans t0,((((H3.out.setCell hz.2 _).setCell hz.2 _).setCell hz.2 _).cell htl).trans t1,((((H3.out.setCell hz.2 _).setCell hz.2 _).setCell hz.2 _).cell htl).trans t2,((((H3.out.setCell hz.2 _).setCell hz.2 _).setCell hz.2 _).cell hX1).trans x0,((((H3.out.setCell hz.2 _).setCell hz.2 _).setCell hz.2 _).cell hX1).trans x1,((((H3.out.setCell hz.2 _).setCell hz.2 _).setCell hz.2 _).cell hX1).trans x2,((((H3.out.setCell hz.2 _).setCell hz.2 _).setCell hz.2 _).cell hX1).trans x3⟩
   | exact⟨(((Below.refl w2.heap.size w2).drew.alloc ZH2 _).cell hGl).trans p0,(((Below.refl w2.heap.size w2).drew.alloc ZH2 _).cell htl).trans t0,(((Below.refl w2.heap.size w2).drew.alloc ZH2 _).cell htl).trans t1,(((Below.refl w2.heap.size w2).drew.alloc ZH2 _).cell htl).trans t2,(((Below.refl w2.heap.size w2).drew.alloc ZH2 _).cell hX1).trans x0,(((Below.refl w2.heap.size w2).drew.alloc ZH2 _).cell hX1).trans x1,(((Below.refl w2.heap.size w2).drew.alloc ZH2 _).cell hX1).trans x2,(((Below.refl w2.heap.size w2).drew.alloc ZH2 _).cell hX1).trans x3⟩
   | exact⟨((Below.refl w2.heap.size w2).drew.cell hGl).trans p0,((Below.refl w2.heap.size w2).drew.cell htl).trans t0,((Below.refl w2.heap.size w2).drew.cell htl).trans t1,((Below.refl w2.heap.size w2).drew.cell htl).trans t2,((Below.refl w2.heap.size w2).drew.cell hX1).trans x0,((Below.refl w2.heap.size w2).drew.cell hX1).trans x1,((Below.refl w2.heap.size w2).drew.cell hX1).trans x2,((Below.refl w2.heap.size w2).drew.cell hX1).trans x3⟩)
  ((go_at_call 230;(with_reducible refine (cQ8 _ X Y t xn yn P1 Q1 V1 q p1 q1 v1 ?g1 ?g2 ?g3 ?g4 ?g5 z1 z2 z3 hxn hyn).mono ?_);(case g1=>(refine HX1.out.same wrR_stays ?_;exact SM));(case g2=>(refine HY1.out.same wrR_stays ?_;exact SM));(case g3=>(refine SP.out.bsame ?_;exact SM));(case g4=>(refine SQ.out.bsame ?_;exact SM));(case g5=>(refine SV.out.bsame ?_;exact SM));rw[Hxe.out];rintro e3 w3 ⟨A3,n3,B3,m3,rfl,hn3,hm3,d1,d2,hb3⟩;have H3:=zh (show Below w2.heap.size w2 w3 from ZE1);(try (have hz:=And.intro (show w3.heap[w2.heap.size]?=some (.cells #[.int .i64 0,.slice none 0 0,.slice none 0 0] 98 (0,0)) from (hb3.block w2.heap.size AU).trans (aK w2.drew _ _)) (Nat.le_refl w2.heap.size);obtain⟨ez0,ez1,ez2,fz0,fz1,fz2⟩:w3.cell? ⟨w2.heap.size,0,none⟩=some (.int .i64 0)∧w3.cell? ⟨w2.heap.size,1,none⟩=some (.slice none 0 0)∧w3.cell? ⟨w2.heap.size,2,none⟩=some (.slice none 0 0)∧w3.frozen? ⟨w2.heap.size,0,none⟩=false∧w3.frozen? ⟨w2.heap.size,1,none⟩=false∧w3.frozen? ⟨w2.heap.size,2,none⟩=false:=⟨aA hz.1 0,aA hz.1 1,aA hz.1 2,aD hz.1 0,aD hz.1 1,aD hz.1 2⟩;have hzl:=(Array.getElem?_eq_some_iff.1 hz.1).1));have D1:=zh d1;have D2:=zh d2;clear d1 d2))
 all_goals
  first
   | (have hzc:=zh (show w3.heap[w2.heap.size]?=some (.cells #[.int .i64 0,.slice none 0 0,.slice none 0 0] 98 (0,0)) from hz.1);have HF1:bB7 w2 (((w3.setCell ⟨w2.heap.size,0,none⟩ (.int .i64 x.start)).setCell ⟨w2.heap.size,1,none⟩ (.slice A3 x.reads.length n3)).setCell ⟨w2.heap.size,2,none⟩ (.slice B3 x.writes.length m3)) w2.heap.size [.int .i64 x.start,.slice A3 x.reads.length n3,.slice B3 x.writes.length m3] 98:=⟨(((H3.out.setCell hz.2 _).setCell hz.2 _).setCell hz.2 _),zn,(by rw[(heap_setCell_same _ _ _ _ _ _ (heap_setCell_same _ _ _ _ _ _ (heap_setCell_same _ _ _ _ _ _ hz.1)))];rfl)⟩;refine bK3 (P:=fun X=>Exit.then _ _ _ _ X) _ ?_;intro WF hWF;obtain⟨nb,hnb⟩:∃ nb,nb=w2.heap.size:=⟨_,rfl⟩;have HF:=zh (show bB7 w2 WF nb [.int .i64 x.start,.slice A3 x.reads.length n3,.slice B3 x.writes.length m3] 98 by rw[hnb,← hWF];exact HF1);have D11:=zh (show Ws (aB w2.heap.size) WF A3 x.reads from by rw[← hWF];exact ((D1.out.less wrR_stays (S':=fun b=>b≠w2.heap.size∧aB w2.heap.size b) (fun b hb h=>ZD1)).same wrR_stays ((((aC.refl _ _).setCell (p:=⟨w2.heap.size,0,none⟩) (fun h=>h.1 rfl) _).setCell (p:=⟨w2.heap.size,1,none⟩) (fun h=>h.1 rfl) _).setCell (p:=⟨w2.heap.size,2,none⟩) (fun h=>h.1 rfl) _)).less wrR_stays (fun b _ h=>h.2));have D21:=zh (show Ws (aB w2.heap.size) WF B3 x.writes from by rw[← hWF];exact ((D2.out.less wrR_stays (S':=fun b=>b≠w2.heap.size∧aB w2.heap.size b) (fun b hb h=>ZD1)).same wrR_stays ((((aC.refl _ _).setCell (p:=⟨w2.heap.size,0,none⟩) (fun h=>h.1 rfl) _).setCell (p:=⟨w2.heap.size,1,none⟩) (fun h=>h.1 rfl) _).setCell (p:=⟨w2.heap.size,2,none⟩) (fun h=>h.1 rfl) _)).less wrR_stays (fun b _ h=>h.2));rw[← hnb];clear HF1 hWF hzc hnb)
   | (have HF1:bB7 w2 (w3.alloc (.cells #[.int .i64 x.start,.slice A3 x.reads.length n3,.slice B3 x.writes.length m3] 98)) w3.heap.size [.int .i64 x.start,.slice A3 x.reads.length n3,.slice B3 x.writes.length m3] 98:=⟨H3.out.alloc H3.out.size _,H3.out.size,aK w3 _ _⟩;refine bK3 (P:=fun X=>Exit.then _ _ _ _ X) _ ?_;intro WF hWF;obtain⟨nb,hnb⟩:∃ nb,nb=w3.heap.size:=⟨_,rfl⟩;have HF:=zh (show bB7 w2 WF nb [.int .i64 x.start,.slice A3 x.reads.length n3,.slice B3 x.writes.length m3] 98 by rw[hnb,← hWF];exact HF1);have D11:=zh (show Ws (aB w2.heap.size) WF A3 x.reads from by rw[← hWF];exact (D1.out.same wrR_stays ((aC.refl _ _).alloc _)).less wrR_stays (fun b _ h=>ZD1));have D21:=zh (show Ws (aB w2.heap.size) WF B3 x.writes from by rw[← hWF];exact (D2.out.same wrR_stays ((aC.refl _ _).alloc _)).less wrR_stays (fun b _ h=>ZD1));rw[← hnb];clear HF1 hWF hnb)
 all_goals
  have hwF:Below w.heap.size w WF:=Hw2.out.next HF.out.b Hw2.out.size
  have HmF:=zh (Hm.out.below (F':=F) hwF fun b hb=>.inl hb)
  have hGF:G<WF.heap.size:=HmF.out.lt
  have kF:WF.cell? ⟨G,6+s*2,none⟩=some (bG3 (m.px s)):=(HmF.out.cell _).trans (HmF.out.cells.px s hs)
  have fF:WF.frozen? ⟨G,6+s*2,none⟩=false:=HmF.out.frozen _
  have hz2:w.heap.size≤w2.heap.size:=Hw2.out.size
  by_cases he:e=0
  ·have hb1:(e != 0)=false:=by simp[he]
   have Hv1:=zh (show aE8 g s t r=(g.txn s (some x),true) by rw[Hv.out,if_neg (by simpa using he)])
   have Hfine:=zh (show aN x=0∧x.start≤(g.synced:Int) by
    have h1:=bH9 (t:=t) (r:=q) (by rw[Hxe.out];exact he)
    rw[Hxe.out] at h1
    exact⟨h1.1,by rw[h1.2.1];exact (H.out.inv.txn s t Ht.out).2⟩)
   have Hn1:=zh (show aV4 g s t r n=n by unfold aV4;rw[Hv1.out];rfl)
   clear he
   go_wp2
   go_ret
   rw[Hv1.out,Hn1.out]
   exact cB8 H.out Hm.out hs hwF (Nat.le_trans hz2 HF.out.lo) HF.out.box hn3 hm3 (D11.out.lo wrR_stays hz2) (D21.out.lo wrR_stays hz2) Hfine.out (Nat.le_refl n) (.bool true)
  ·have hb1:(e != 0)=true:=by simpa using he
   have Hv1:=zh (show aE8 g s t r=(g.say (aE4 s e),false) by rw[Hv.out,if_pos he])
   have Hn1:=zh (show aV4 g s t r n=n+1 by unfold aV4;rw[Hv1.out];rfl)
   clear he
   go_wp2_with (go_at_call 117;(with_reducible refine (aF2 (Fx F w WF) _ G g n s e (H.out.below hwF) hn).mono ?_);rintro e4 w4 hp;obtain⟨rfl,hp2,hp3,hp4⟩:=hp)
   go_ret
   rw[Hv1.out,Hn1.out]
   exact aO.from H.out hwF ⟨rfl,hp2,hp3,hp4⟩
end Go.Proofs.YtablgnacmpcfeaaGreatDoor
