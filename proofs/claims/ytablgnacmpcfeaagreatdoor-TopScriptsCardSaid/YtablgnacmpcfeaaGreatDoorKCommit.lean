/- Commit: Commits: words for memory; copied, held against each other. Walks: what is refused of a commit: tape.Check, CommitFault; the law TapeChecks. Walks: history.Check, history.Fold and what the references say of them; their laws. Walks: history.Check, history.Fold; the laws HistoryChecks and HistoryFolds. The conditions of each are in its words. -/
import Derived.Test.YtablgnacmpcfeaaGreatDoorKForestW
import Derived.Test.YtablgnacmpcfeaaGreatDoorKForestX
import Derived.Test.YtablgnacmpcfeaaGreatDoorKForest
namespace Go.Proofs.YtablgnacmpcfeaaGreatDoor
open Go.RowKit
set_option linter.unusedVariables false
set_option linter.unusedSimpArgs false
set_option maxRecDepth 100000
set_option maxHeartbeats 8000000
abbrev Cm:=Int × List Wr
def CmR (S:Nat→Prop) (w:World) (cs:List Value) (c:Cm):Prop :=
 ∃ A n,cs=[.int .i64 c.1,.slice A c.2.length n]∧Ws S w A c.2∧c.2.length*80≤140737488355328
theorem cmR_stays:bI CmR :=
 ⟨fun _ _ _ _ _ hb ⟨A,n,h0,h1,h2⟩=>⟨A,n,h0,h1.same wrR_stays hb,h2⟩,fun _ _ _ _ _ hb ⟨A,n,h0,h1,h2⟩=>⟨A,n,h0,h1.less wrR_stays hb,h2⟩⟩
theorem info_cm:(Tryz.prog.info? 177).map (fun i=>(i.zero,i.size,i.bytes))=some (some (.agg #[.int .i64 0,.slice none 0 0]),2,32):=by kernel_rfl
abbrev Cs (S:Nat→Prop) (w:World) (A:Option Addr) (l:List Cm):Prop:=SL 2 CmR S w A l
theorem cms_at {S:Nat→Prop} {w:World} {A:Option Addr} {l:List Cm} (h:Cs S w A l) {k:Nat} (hk:k<l.length) :
  ∃ g off B n,A=some ⟨g,off,none⟩∧S g∧g<w.heap.size∧w.cell? ⟨g,off+k*2,none⟩=some (.int .i64 l[k].1)∧w.cell? ⟨g,off+k*2+1,none⟩=some (.slice B l[k].2.length n)∧Ws S w B l[k].2∧l[k].2.length*80≤140737488355328:=by
 obtain⟨g,off,cs,e,h0,hlt,h1,h2,B,n,rfl,h3,h4⟩:=h.at hk
 exact⟨g,off,B,n,e,h0,hlt,by simpa using h2 0 AO,by simpa using h2 1 AO,h3,h4⟩
theorem cm_fresh {n base:Nat} {w W:World} {v:Value} {A:Option Addr} {x:Cm} {a:Nat} (h1:Ws (aB n) w A x.2) (g1:x.2.length*80≤140737488355328) (hs:aC (aB n) w W) (hb:base≤n) (hap:∀ b,aB n b→v.ownBlock≠some b) :
  CmR (fun b=>aB base b∧v.ownBlock≠some b) W [.int .i64 x.1,.slice A x.2.length a] x :=
 ⟨A,a,rfl,(h1.same wrR_stays hs).less wrR_stays fun b _ h=>⟨Nat.le_trans hb h,hap b h⟩,g1⟩
theorem cK5 (x:Wr):(aC6 [] x).2=aH x:=by
 unfold aC6
 by_cases h1:aH x=0
 ·rw[if_neg ZE3,h1]
  have hn:aI x.name=0:=by
   unfold aH at h1
   split at h1
   ·rename_i h';exact absurd h1 h'
   ·rename_i h';simpa using h'
  unfold aH at h1
  rw[if_neg (by simpa using hn)] at h1
  have hp:aJ [] x.name=[]:=rfl
  unfold aY4
  dsimp only
  rw[hp]
  by_cases hf:x.flag=true
  ·rw[if_pos hf] at h1
   have hk:aE x.key=0:=by
    split at h1
    ·rename_i h';exact absurd h1 h'
    ·rename_i h';simpa using h'
   have e:bH [] x=([],0):=by
    unfold bH
    rw[if_pos hf]
    unfold aS2 aD3
    rw[if_neg (show ¬ aG []≠0 by decide),if_neg (by simpa using hk)]
    rfl
   rw[e]
   rfl
  ·rw[if_neg hf] at h1
   have e:bH [] x=([(x.key,x.value)],0):=by
    unfold bH
    rw[if_neg hf]
    unfold aK0 aJ9
    rw[if_neg (show ¬ aG []≠0 by decide),if_neg ZE3]
    rfl
   rw[e]
   rfl
 ·rw[if_pos h1]
theorem bE8 (x:Wr):(aC4 [] [x]).2=aH x:=by
 unfold aC4
 rw[if_neg (show ¬ aL []≠0 by decide),if_neg (show ¬ 10<[x].length by simp)]
 unfold applyAll
 rw[← cK5]
 by_cases h:(aC6 [] x).2=0
 ·rw[if_neg ZF9,h]
  rfl
 ·rw[if_pos h]
def cwAt (ws:List Wr) (i:Nat):Int:=if 10≤i then 1 else aH (ws.getD i ⟨[],[],false,[]⟩)
def aA2 (c:Cm):Int:=if ¬ (1≤c.1∧c.1≤1048576) then 2 else if c.2.length=0 then 1 else aB0 (cwAt c.2) c.2.length 0
theorem cE0 {ws:List Wr} {k:Nat} (hk:k<ws.length) (h:k<10):cwAt ws k=aH ws[k]:=by
 unfold cwAt
 rw[if_neg AO]
 simp[hk]
theorem bV5 {ws:List Wr} {k:Nat} (h:10≤k):cwAt ws k=1:=by
 unfold cwAt
 rw[if_pos h]
theorem bH1 {w W:World} {t:TypeId} {A B C:Option Addr} {x:Wr} {a b c:Nat} (g:Nat) (hh:W.heap[g]?=some (.cells #[.slice A x.name.length a,.slice B x.key.length b,.bool x.flag,.slice C x.value.length c] t (0,0))) (hb:Below w.heap.size w W) (h1:Bs All w A x.name) (h2:Bs All w B x.key) (h3:Bs All w C x.value) (g1:x.name.length≤big) (g2:x.key.length≤big) (g3:x.value.length≤big):Ws All W (some ⟨g,0,none⟩) [x]:=by
 intro _
 obtain⟨k0,k1,k2,k3,_⟩:=bG hh
 refine⟨g,0,rfl,trivial,(Array.getElem?_eq_some_iff.1 hh).1,fun i hi=>?_⟩
 obtain rfl:i=0:=by simp at hi;exact hi
 refine⟨[.slice A x.name.length a,.slice B x.key.length b,.bool x.flag,.slice C x.value.length c],rfl,fun j hj=>?_,⟨A,a,B,b,C,c,rfl,h1.bbelow hb,h2.bbelow hb,h3.bbelow hb,g1,g2,g3⟩⟩
 match j,hj with
 | 0,_=>simpa using k0
 | 1,_=>simpa using k1
 | 2,_=>simpa using k2
 | 3,_=>simpa using k3
theorem aK1 (w:World) (A:Option Addr) (t:Int) (l:List Wr) (n:Nat) (ha:Ws All w A l) (hn:l.length*80≤140737488355328) :
  Calls Tryz.prog 236 #[.agg #[.int .i64 t,.slice A l.length n]] w (bQ w (.int .i64 (aA2 (t,l)))):=by
 have Ha:=zh ha
 clear ha
 by_cases h1:1≤t∧t≤1048576
 ·have b1:decide (t<1)=false:=by rw[decide_eq_false_iff_not];omega
  have b1':decide ((1048576:Int)<t)=false:=by rw[decide_eq_false_iff_not];omega
  by_cases h2:l.length=0
  ·have Hv:=zh (show aA2 (t,l)=1 by unfold aA2;rw[if_neg ZE3,if_pos h2])
   have b2:decide ((l.length:Int)<1)=true:=by rw[decide_eq_true_eq];omega
   clear h1
   go_enter Tryz.func236,Tryz.ntmps236
   go_wp2
   go_ret
   exact⟨aM ZH1,BX⟩
  ·have Hv:=zh (show aA2 (t,l)=aB0 (cwAt l) l.length 0 by unfold aA2;rw[if_neg ZE3,if_neg h2])
   have b2:decide ((l.length:Int)<1)=false:=by rw[decide_eq_false_iff_not];omega
   clear h1
   have Hb0:=zh (show Below w.heap.size w (w.alloc (.cells #[.int .i64 t,.slice A l.length n] 177)) from (Below.refl _ _).alloc zn _)
   have Hz0:=zh (show w.heap.size<(w.alloc (.cells #[.int .i64 t,.slice A l.length n] 177)).heap.size by simp)
   go_enter Tryz.func236,Tryz.ntmps236
   go_wp2
   clear b1 b1' b2
   generalize w.alloc (.cells #[.int .i64 t,.slice A l.length n] 177)=w0 at *
   go_loopw [22] (fun i wr=>∃ k:Nat,k≤l.length∧k≤10∧i=.int .i64 k∧aB0 (cwAt l) (l.length - k) k=aA2 (t,l)∧Below w0.heap.size w0 wr) (fun i _=>l.length - (intOf i).toNat)
   case atStart=>exact⟨0,AO,by omega,rfl,by rw[Hv.out];rfl,Below.refl _ _⟩
   case round =>
    obtain⟨k,hk,hk10,rfl,hval,hbel⟩:=hrel
    have Hbel:=zh hbel
    have Hval:=zh hval
    have hbz:=hbel.size
    have Hb1:=zh (Hb0.out.next hbel (by have:=Hz0.out;omega))
    clear hbel hval
    by_cases hlt:k<l.length
    ·have Hstep:=zh (aO4 (cwAt l) hlt)
     obtain⟨g,off,A1,a1,B1,b1,C1,c1,rfl,_,hal,hc1,hc2,hc3,hc4,hs1,hs2,hs3,hb1,hb2,hb3⟩:=aF4 (Ha.out.below wrR_stays Hb1.out) hlt
     by_cases h10:k<10
     ·have Hz:=zh (cE0 hlt h10)
      have d1:((k:Int)==10)=false:=by rw[beq_eq_false_iff_ne];omega
      have Hone:=zh (bE8 l[k])
      by_cases he:aH l[k]=0
      ·have d2:(aH l[k] != 0)=false:=by simp[he]
       have He:=zh he
       clear he
       generalize l[k]=x at *
       go_wp2_with (go_at_call 30;refine (aJ0 _ none [] 0 _ [x] 1 SL.nil ?hws).mono ?_;(case hws=>exact bH1 (w:=wr) (wr.heap.size+1) (by have:=aK (wr.alloc (.cells #[.slice A1 x.name.length a1,.slice B1 x.key.length b1,.bool x.flag,.slice C1 x.value.length c1] 102)) #[.slice A1 x.name.length a1,.slice B1 x.key.length b1,.bool x.flag,.slice C1 x.value.length c1] 102;simpa using this) (((Below.refl _ _).alloc zn _).alloc ZH2 _) hs1.bz hs2.bz hs3.bz hb1 hb2 hb3);rintro e w1 ⟨A5,c5,rfl,_,_,hbw1⟩;rw[Hone.out];simp only[List.length_nil])
       go_roundw
       case rel=>exact⟨k+1,AO,by omega,by go_num,by rw[← Hval.out,Hstep.out,if_neg (by rw[Hz.out,He.out];decide)],((Hbel.out.alloc hbz _).alloc ZC8 _).next hbw1 ZC8⟩
       case measure=>simp[intOf];omega
      ·have d2:(aH l[k] != 0)=true:=by simpa using he
       have He:=zh he
       clear he
       generalize l[k]=x at *
       go_wp2_with (go_at_call 30;refine (aJ0 _ none [] 0 _ [x] 1 SL.nil ?hws).mono ?_;(case hws=>exact bH1 (w:=wr) (wr.heap.size+1) (by have:=aK (wr.alloc (.cells #[.slice A1 x.name.length a1,.slice B1 x.key.length b1,.bool x.flag,.slice C1 x.value.length c1] 102)) #[.slice A1 x.name.length a1,.slice B1 x.key.length b1,.bool x.flag,.slice C1 x.value.length c1] 102;simpa using this) (((Below.refl _ _).alloc zn _).alloc ZH2 _) hs1.bz hs2.bz hs3.bz hb1 hb2 hb3);rintro e w1 ⟨A5,c5,rfl,_,_,hbw1⟩;rw[Hone.out])
       go_ret
       exact⟨aM (by rw[← Hval.out,Hstep.out,if_pos (by rw[Hz.out];exact He.out),Hz.out]),((Hb1.out.alloc (by have:=Hz0.out;omega) _).alloc (by have:=Hz0.out;simp;omega) _).next hbw1 (by have:=Hz0.out;simp;omega)⟩
     ·obtain rfl:k=10:=by omega
      have Hz:=zh (bV5 (ws:=l) (k:=10) AO)
      generalize l[10]=x at *
      go_wp2
      go_ret
      exact⟨aM (by rw[← Hval.out,Hstep.out,if_pos (by rw[Hz.out];decide),Hz.out]),Hb1.out.alloc (by have:=Hz0.out;omega) _⟩
    ·obtain rfl:k=l.length:=by omega
     have hfin:=Hval.out
     rw[Nat.sub_self] at hfin
     have Hfin:=zh hfin
     clear hfin
     go_wp2
     go_ret
     exact⟨aM (by rw[← Hfin.out];rfl),Hb1.out⟩
 ·have Hv:=zh (show aA2 (t,l)=2 by unfold aA2;rw[if_pos h1])
  by_cases h3:t<1
  ·have b1:decide (t<1)=true:=by rw[decide_eq_true_eq];exact h3
   clear h1 h3
   go_enter Tryz.func236,Tryz.ntmps236
   go_wp2
   go_ret
   exact⟨aM ZH1,BX⟩
  ·have b1:decide (t<1)=false:=by rw[decide_eq_false_iff_not];exact h3
   have b1':decide ((1048576:Int)<t)=true:=by rw[decide_eq_true_eq];omega
   clear h1 h3
   go_enter Tryz.func236,Tryz.ntmps236
   go_wp2
   go_ret
   exact⟨aM ZH1,BX⟩
def aS (l:List Cm) (n:Nat):List Tn:=(l.take n).foldl (fun f c=>(aC4 f c.2).1) []
theorem bZ5 {l:List Cm} {k:Nat} (h:k<l.length):aS l (k+1)=(aC4 (aS l k) l[k].2).1:=by
 unfold aS
 rw[aC8 l k h,List.foldl_append]
 rfl
theorem bZ6 (l:List Cm) (n:Nat):aN0 (aS l n):=by
 unfold aS
 generalize l.take n=m
 have h:∀ (m:List Cm) (f:List Tn),aN0 f→aN0 (m.foldl (fun f c=>(aC4 f c.2).1) f):=by
  intro m
  induction m with
  | nil=>exact fun f h=>h
  | cons c m ih=>exact fun f _=>ih _ (bT3 f c.2)
 exact h m [] rfl
end Go.Proofs.YtablgnacmpcfeaaGreatDoor
