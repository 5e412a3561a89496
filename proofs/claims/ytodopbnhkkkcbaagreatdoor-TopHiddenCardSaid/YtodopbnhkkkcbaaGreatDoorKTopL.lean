/- TopL: Plain laws for the laws of the whole: what is told while the server is down; turns that a sync tells. No program. Walks: canopykeep's SameForest and what it leans on. The conditions of each are in its words. -/
import Derived.Test.YtodopbnhkkkcbaaGreatDoorKSrvP
import Derived.Test.YtodopbnhkkkcbaaGreatDoorKForest
import Derived.Test.YtodopbnhkkkcbaaGreatDoorKTrees
namespace Go.Proofs.YtodopbnhkkkcbaaGreatDoor
open Go.RowKit
set_option linter.unusedVariables false
set_option linter.unusedSimpArgs false
set_option maxRecDepth 100000
set_option maxHeartbeats 8000000
theorem down_one {g:Eng} (h:g.up=false) {a:Ac} (ha:a.kind=1∨a.kind=2):doE g a={ g with replies:=g.replies++if a.kind=1 then [aE4 a.session.toNat 13] else [] }:=by
 rcases ha with hk|hk
 ·unfold doE
  rw[if_pos hk,if_pos hk]
  unfold aS0
  rw[if_pos h]
  rfl
 ·unfold doE
  rw[if_neg AO,if_pos hk,if_neg AO,List.append_nil]
  unfold aV2
  rw[if_pos h]
theorem down_fold:∀ (m:List Ac) (g:Eng),g.up=false→(∀ a ∈ m,a.kind=1∨a.kind=2) →
  m.foldl doE g={ g with replies:=g.replies++(m.filter fun a=>decide (a.kind=1)).map fun a=>aE4 a.session.toNat 13 }
 | [],g,_,_=>by simp
 | a :: m,g,h,hm=>by
  rw[List.foldl_cons,down_one h (hm a ZH2)]
  rw[down_fold m _ (by exact h) fun b hb=>hm b (by simp[hb])]
  by_cases hk:a.kind=1
  ·simp[hk]
  ·simp[hk]
theorem cZ5 (g:Eng) (k:Int):(aS1 g k).up=false:=by
 unfold aS1
 by_cases h:g.up=false
 ·rw[if_pos h];exact h
 ·rw[if_neg h]
theorem ran_crash_down (l:List Ac):(bM (l++[⟨3,0,0,[]⟩])).up=false:=by
 rw[cZ2]
 unfold doE
 rw[if_neg ZH2,if_neg ZH2,if_pos rfl]
 exact cZ5 _ _
theorem sync_turn:∀ (ws:List Nat) (g:Eng) (j:Nat),j<ws.length→((ws.foldl aC1 g).replies[g.replies.length+j]?).map (fun r=>r.turn)=some ((g.synced+j+1:Nat):Int)
 | [],_,_,h=>by simp at h
 | a :: ws,g,0,_=>by
  obtain⟨l,hl⟩:=fold_says ws (aC1 g a)
  rw[List.foldl_cons,hl]
  have h1:(aC1 g a).replies=g.replies++[bC5 a ((g.synced+1:Nat):Int)]:=rfl
  rw[h1]
  simp[bC5]
 | a :: ws,g,j+1,h=>by
  have h1:(aC1 g a).replies.length=g.replies.length+1:=by
   show (g.replies++[_]).length=_
   simp
  have h2:=sync_turn ws (aC1 g a) j ZF9
  rw[h1] at h2
  rw[List.foldl_cons,show g.replies.length+(j+1)=g.replies.length+1+j by omega,h2]
  show some (((g.synced+1)+j+1:Nat):Int)=_
  congr 2
  omega
theorem sync_told {g:Eng} {n:Nat} (h:Inv g n) (k:Nat) (h1:g.replies.length≤k) (h2:k<(aV2 g).replies.length):((aV2 g).replies[k]?).map (fun r=>r.turn)=some (((g.synced+(k - g.replies.length)+1:Nat)):Int)∧g.synced+(k - g.replies.length)+1≤(aV2 g).synced:=by
 unfold aV2 at h2 ⊢
 by_cases hu:g.up=false
 ·rw[if_pos hu] at h2
  omega
 ·rw[if_neg hu] at h2 ⊢
  obtain⟨b1,b2,b3,b4,b5,b6,b7,b8⟩:=sync_fold g.waiting { g with tape:=if aR5 g.tape then (g.tape.1,(g.tape.1.length:Int)) else ([],0) } h.sess h.who
  have h3:=sync_turn g.waiting { g with tape:=if aR5 g.tape then (g.tape.1,(g.tape.1.length:Int)) else ([],0) } (k - g.replies.length)
  dsimp only at h2 h3 b4 b6 ⊢
  rw[b6] at h2
  have h4:=h3 AO
  rw[show g.replies.length+(k - g.replies.length)=k by omega] at h4
  exact⟨h4,by rw[b4];omega⟩
theorem sync_count {g:Eng} {n:Nat} (h:Inv g n):g.replies.length≤(aV2 g).replies.length∧(aV2 g).synced+g.replies.length=g.synced+(aV2 g).replies.length:=by
 unfold aV2
 by_cases hu:g.up=false
 ·rw[if_pos hu];omega
 ·rw[if_neg hu]
  obtain⟨b1,b2,b3,b4,b5,b6,b7,b8⟩:=sync_fold g.waiting { g with tape:=if aR5 g.tape then (g.tape.1,(g.tape.1.length:Int)) else ([],0) } h.sess h.who
  dsimp only at b4 b6 ⊢
  rw[b4,b6]
  omega
theorem dA5 (l:List Cm) (j:Nat) (hj:j≤l.length):aS (l.take j) (l.take j).length=aS l j:=by
 unfold aS
 rw[List.length_take,Nat.min_eq_left hj,List.take_take,Nat.min_self]
theorem cZ6 {t:Tp} {l:List Cm} {n:Nat} (h:bK0 t l n) {j:Nat} (hj:j≤l.length) (hq:(aR (l.take j)).length≤(aR (l.take n)).length):j≤n:=by
 rcases Nat.lt_or_ge n j with hlt|hge
 ·exfalso
  have h1:=aT8 l (i:=n+1) (j:=j) hlt
  have hn:n<l.length:=by omega
  have h2:(aR (l.take (n+1))).length=(aR (l.take n)).length+(aG0 l[n]).length:=by rw[aC8 l n hn,bU3,List.length_append]
  have h3:=(cO0 (h.turns n hn).1).1
  omega
 ·exact hge
theorem cZ7 {t:Tp} {l:List Cm} {n:Nat} (h:bK0 t l n) {keep:Int} (hk:0≤keep):∃ j,n≤j∧j≤l.length∧(keep=0→j=n)∧bQ6 (aL4 t keep).1=((l.take j,(aR (l.take j),((aR (l.take j)).length:Int))),0):=by
 obtain⟨j,j1,j2,j3⟩:=bH8 h hk
 refine⟨j,j1,j2,fun h0=>?_,j3⟩
 have hm:=h.may
 obtain⟨m0,m1,m2⟩:=(aH8 t).1 hm
 have h4:(aL4 t keep).1=(t.1.take t.2.toNat,t.2):=by
  subst h0
  have hc:aZ5 t 0=t.2.toNat:=by
   unfold aZ5
   split
   ·simp
   ·omega
  unfold aL4
  rw[if_pos hm,if_neg AO,hc]
  simp
  omega
 have h5:(bQ6 (aL4 t keep).1).1.2.1.length≤t.2.toNat:=by
  rw[h4]
  have hcm:aR5 (t.1.take t.2.toNat,t.2)=true:=(aH8 _).2 ⟨AO,by simp only[List.length_take];omega,by simp only[List.length_take];omega⟩
  unfold bQ6
  rw[if_neg (by simp[hcm])]
  dsimp only
  simp only[List.length_take]
  omega
 rw[j3] at h5
 have h6:=cZ6 h j2 (by have:=h.safe;simp only at h5;omega)
 omega
theorem cZ8 {g:Eng} {n:Nat} (h:Inv g n) (hu:g.up=true) {keep:Int} (hk:0≤keep):∃ j:Nat,g.synced≤j∧j≤g.synced+g.waiting.length∧(keep=0→j=g.synced)∧(aS1 g keep).out=⟨false,j,0,aS g.commits j,g.replies⟩:=by
 obtain⟨j,j1,j2,j3,j4⟩:=cZ7 h.holds hk
 have hw:=h.wait
 refine⟨j,j1,AO,j3,?_⟩
 have hl:(g.commits.take j).length=j:=by rw[List.length_take];omega
 unfold aS1
 rw[if_neg (by rw[hu];simp),j4]
 unfold Eng.out Eng.now
 dsimp only
 rw[dA5 _ _ j2,hl]
 rfl
theorem Inv.start {g:Eng} {n:Nat} (h:Inv g n):Inv { g with up:=true } n:={ h with }
theorem cZ9 {g:Eng}:(doE g ⟨4,0,0,[]⟩).out={ g.out with up:=true }:=rfl
theorem dA0 (l m:List Ac):bM (l++m)=m.foldl doE (bM l):=by unfold bM;rw[List.foldl_append]
theorem durable_out {l:List Ac} (hl:∀ a ∈ l,aB6 a=0) {keep:Nat}:∃ j:Nat,(bM l).synced≤j∧j≤(bM l).synced+(bM l).waiting.length∧(keep=0→j=(bM l).synced)∧(bM ((l++[⟨4,0,0,[]⟩])++[⟨3,0,(keep:Int),[]⟩,⟨4,0,0,[]⟩])).out=⟨true,j,0,aS (bM l).commits j,(bM l).replies⟩:=by
 have hi:=cZ1 hl
 rw[dA0,dA0]
 generalize bM l=g at *
 have hs:[(⟨4,0,0,[]⟩:Ac)].foldl doE g={ g with up:=true }:=rfl
 rw[hs]
 obtain⟨j,j1,j2,j3,j4⟩:=cZ8 hi.start rfl (keep:=(keep:Int)) AO
 refine⟨j,j1,j2,fun h=>j3 AO,?_⟩
 have h2:[(⟨3,0,(keep:Int),[]⟩:Ac),⟨4,0,0,[]⟩].foldl doE { g with up:=true }=doE (aS1 { g with up:=true } keep) ⟨4,0,0,[]⟩:=rfl
 rw[h2,cZ9,j4]
theorem sync_out {g:Eng} {n:Nat} (h:Inv g n) (hu:g.up=true):(aV2 g).out.turn=(g.commits.length:Int)∧(aV2 g).out.forest=aS g.commits g.commits.length:=by
 unfold aV2
 rw[if_neg (by rw[hu];simp)]
 obtain⟨b1,b2,b3,b4,b5,b6,b7,b8⟩:=sync_fold g.waiting { g with tape:=if aR5 g.tape then (g.tape.1,(g.tape.1.length:Int)) else ([],0) } h.sess h.who
 dsimp only at b3 b4
 have hw:=h.wait
 unfold Eng.out Eng.now
 dsimp only
 rw[b3,b4,show g.synced+g.waiting.length=g.commits.length by omega]
 exact⟨rfl,rfl⟩
theorem ask_up (g:Eng) (s:Nat) (d:List UInt8) (hl:g.sess.length=8) (hs:s<8):(aS0 g s d).up=g.up:=by
 rcases cV8 hl hs d with ⟨p,hp⟩|⟨c,hc,_⟩
 ·exact hp.up
 ·exact hc.up
theorem act_up {g:Eng} {n:Nat} (h:Inv g n) {a:Ac} (ha:aB6 a=0) (hk:a.kind≠3) (hu:g.up=true):(doE g a).up=true:=by
 obtain⟨h1,h2,h3,h4,_⟩:=aT9 ha
 unfold doE
 split
 ·rename_i hk1
  rw[ask_up g _ _ h.sess (by have:=h1 hk1;omega),hu]
 ·split
  ·unfold aV2
   rw[if_neg (by rw[hu];simp)]
   exact (sync_fold g.waiting { g with tape:=if aR5 g.tape then (g.tape.1,(g.tape.1.length:Int)) else ([],0) } h.sess h.who).2.2.2.2.2.2.2.trans hu
  ·first
   | rfl
   | (rw[if_neg hk])
theorem calm_up:∀ (l:List Ac) (g:Eng) (n:Nat),Inv g n→g.up=true→(∀ a ∈ l,aB6 a=0∧a.kind≠3)→(l.foldl doE g).up=true
 | [],_,_,_,hu,_=>hu
 | a :: l,g,n,h,hu,hl=>by
  obtain⟨h1,h2⟩:=hl a ZH2
  exact calm_up l (doE g a) (n+1) (h.act h1) (act_up h h1 h2 hu) fun b hb=>hl b (by simp[hb])
theorem whole_out {l:List Ac} (hl:∀ a ∈ l,aB6 a=0) (hc:∀ a ∈ l,a.kind≠3) (keep:Nat):∃ j:Nat,(bM l).synced≤j∧j≤(bM l).commits.length∧(bM (l++[⟨3,0,(keep:Int),[]⟩])).out=⟨false,j,0,aS (bM l).commits j,(bM l).replies⟩∧(bM (l++[⟨2,0,0,[]⟩])).out.turn=((bM l).commits.length:Int)∧(bM (l++[⟨2,0,0,[]⟩])).out.forest=aS (bM l).commits (bM l).commits.length:=by
 have hi:=cZ1 hl
 have hu:(bM l).up=true:=calm_up l eng0 0 inv_zero rfl fun a ha=>⟨hl a ha,hc a ha⟩
 rw[cZ2,cZ2]
 generalize bM l=g at *
 obtain⟨j,j1,j2,_,j4⟩:=cZ8 hi hu (keep:=(keep:Int)) AO
 obtain⟨s1,s2⟩:=sync_out hi hu
 have hw:=hi.wait
 exact⟨j,j1,AO,j4,s1,s2⟩
theorem bad_out (l:List Ac) (s:Nat) (d:List UInt8) (he:(aM2 d).2≠0):(bM (l++[⟨1,s,0,d⟩])).out={ (bM l).out with replies:=(bM l).replies++[aE4 s (if (bM l).up=false then 13 else (aM2 d).2)] }:=by
 rw[cZ2]
 generalize bM l=g
 show (aS0 g ((s:Int).toNat) d).out=_
 rw[Int.toNat_natCast]
 unfold aS0
 by_cases hu:g.up=false
 ·rw[if_pos hu,if_pos hu];rfl
 ·rw[if_neg hu,if_neg hu,if_pos he];rfl
theorem aU1 (w:World) (A B:Option Addr) (a b:List UInt8) (c d:Nat) (ha:Bs All w A a) (hb:Bs All w B b) :
  Calls Tryz.prog 52 #[.slice A a.length c,.slice B b.length d] w fun e w'=>e=.returned (.bool (a==b))∧w=w':=by
 have h1:=bE2 ha 27 9 5 c Tryz.underlying27 Tryz.underlying5 Tryz.underlying9
 have h2:=bE2 hb 27 9 5 d Tryz.underlying27 Tryz.underlying5 Tryz.underlying9
 clear ha hb
 go_enter Tryz.func52,Tryz.ntmps52
 go_wp2
 go_ret
 exact⟨rfl,rfl⟩
theorem cC4 (w:World) (A B A' B':Option Addr) (p:Pr) (c d c' d':Nat) (ha:Bs All w A p.1) (hb:Bs All w B p.2) (ha':Bs All w A' p.1) (hb':Bs All w B' p.2) :
  Calls Tryz.prog 78 #[.agg #[.slice A p.1.length c,.slice B p.2.length d],.agg #[.slice A' p.1.length c',.slice B' p.2.length d']] w (bQ w (.bool true)):=by
 have Ha:=zh ha
 have Hb:=zh hb
 have Ha':=zh ha'
 have Hb':=zh hb'
 clear ha hb ha' hb'
 go_enter Tryz.func78,Tryz.ntmps78
 go_wp2_with (first
  | (go_at_call 52;(with_reducible refine (aU1 _ A A' p.1 p.1 c c' ?hx ?hy).mono ?_);(case hx=>(refine Ha.out.bbelow ?_;exact BE));(case hy=>(refine Ha'.out.bbelow ?_;exact BE));rintro e w2 ⟨rfl,rfl⟩)
  | (go_at_call 52;(with_reducible refine (aU1 _ B B' p.2 p.2 d d' ?hx ?hy).mono ?_);(case hx=>(refine Hb.out.bbelow ?_;exact BE));(case hy=>(refine Hb'.out.bbelow ?_;exact BE));rintro e w2 ⟨rfl,rfl⟩))
 go_ret
 refine⟨by simp,?_⟩
 exact BE
theorem bU6 (w:World) (A B:Option Addr) (l:List Pr) (c d:Nat) (ha:Ps All w A l) (hb:Ps All w B l) (hn:l.length≤big) :
  Calls Tryz.prog 53 #[.slice A l.length c,.slice B l.length d] w (bQ w (.bool true)):=by
 unfold big at hn
 have Ha:=zh ha
 have Hb:=zh hb
 clear ha hb
 go_enter Tryz.func53,Tryz.ntmps53
 go_wp2
 go_loopw [5] (fun i wr=>∃ k:Nat,k≤l.length∧i=.int .i64 k∧Below w.heap.size w wr) (fun i _=>l.length - (intOf i).toNat)
 case atStart=>exact⟨0,AO,rfl,Below.refl _ _⟩
 case round =>
  obtain⟨k,hk,rfl,hbel⟩:=hrel
  have Hbel:=zh hbel
  clear hbel
  by_cases hlt:k<l.length
  ·obtain⟨ab,ao,K,c1,V,d1,rfl,_,hal,hc1,hc2,hs1,hs2,_,_⟩:=aE3 (Ha.out.below pairR_stays Hbel.out) hlt
   obtain⟨bb,bo,K',c1',V',d1',rfl,_,hbl,hc3,hc4,hs3,hs4,_,_⟩:=aE3 (Hb.out.below pairR_stays Hbel.out) hlt
   generalize l[k]=x at *
   have hi0:(0:Int)≤(k:Int):=by omega
   have hi1:(k:Int)<(l.length:Int):=by omega
   go_wp2_with fail
   go_region_held3 (fun w'=>w'.cell? ⟨ab,ao+k*2,none⟩=some (.slice K x.1.length c1)∧w'.cell? ⟨ab,ao+k*2+1,none⟩=some (.slice V x.2.length d1)∧w'.cell? ⟨bb,bo+k*2,none⟩=some (.slice K' x.1.length c1')∧w'.cell? ⟨bb,bo+k*2+1,none⟩=some (.slice V' x.2.length d1'))
    (first
     | go_keep
     | (go_split_ands;refine⟨(hbw2.cell ZC8).trans ZF3,(hbw2.cell ZC8).trans ZF3,(hbw2.cell ZC8).trans ZF3,(hbw2.cell ZC8).trans ZF3⟩))
    ((go_at_call 78;(with_reducible refine (cC4 _ K V K' V' x c1 d1 c1' d1' (hs1.bz.bsame (aC.refl _ _).drew) (hs2.bz.bsame (aC.refl _ _).drew) (hs3.bz.bsame (aC.refl _ _).drew) (hs4.bz.bsame (aC.refl _ _).drew)).mono ?_);rintro e w2 ⟨rfl,hbw2⟩))
   go_wp2
   go_roundw
   case rel=>exact⟨k+1,AO,by go_num,Hbel.out.drew.next hbw2 (by have hz2:=Hbel.out.size;simp;omega)⟩
   case measure=>simp[intOf];omega
  ·go_wp2
   go_ret
   exact⟨rfl,Hbel.out⟩
theorem bS7 (w:World) (A B:Option Addr) (l:List Tn) (c d:Nat) (ha:Ts All w A l) (hb:Ts All w B l) (hn:l.length≤big) :
  Calls Tryz.prog 32 #[.slice A l.length c,.slice B l.length d] w (bQ w (.bool true)):=by
 unfold big at hn
 have Ha:=zh ha
 have Hb:=zh hb
 clear ha hb
 go_enter Tryz.func32,Tryz.ntmps32
 go_wp2
 go_loopw [5] (fun i wr=>∃ k:Nat,k≤l.length∧i=.int .i64 k∧Below w.heap.size w wr) (fun i _=>l.length - (intOf i).toNat)
 case atStart=>exact⟨0,AO,rfl,Below.refl _ _⟩
 case round =>
  obtain⟨k,hk,rfl,hbel⟩:=hrel
  have Hbel:=zh hbel
  have hbz:=hbel.size
  clear hbel
  by_cases hlt:k<l.length
  ·obtain⟨ab,ao,K,c1,V,d1,rfl,_,hal,hc1,hc2,hs1,hs2,_,h48,_⟩:=aN8 (Ha.out.below tenR_stays Hbel.out) hlt
   obtain⟨bb,bo,K',c1',V',d1',rfl,_,hbl,hc3,hc4,hs3,hs4,_,_,_⟩:=aN8 (Hb.out.below tenR_stays Hbel.out) hlt
   generalize l[k]=x at *
   have hi0:(0:Int)≤(k:Int):=by omega
   have hi1:(k:Int)<(l.length:Int):=by omega
   have e1:(x.1==x.1)=true:=by simp
   have hxb:x.2.length≤big:=by unfold big;omega
   go_wp2_with fail
   go_region_held3 (fun w'=>w'.cell? ⟨ab,ao+k*2,none⟩=some (.slice K x.1.length c1)∧w'.cell? ⟨ab,ao+k*2+1,none⟩=some (.slice V x.2.length d1)∧w'.cell? ⟨bb,bo+k*2,none⟩=some (.slice K' x.1.length c1')∧w'.cell? ⟨bb,bo+k*2+1,none⟩=some (.slice V' x.2.length d1'))
    (first
     | go_keep
     | (go_split_ands;refine⟨(hbw2.cell ZC8).trans ZF3,(hbw2.cell ZC8).trans ZF3,(hbw2.cell ZC8).trans ZF3,(hbw2.cell ZC8).trans ZF3⟩))
    (first
     | (go_at_call 52;refine (aU1 _ K K' x.1 x.1 c1 c1' (hs1.bz.bsame SM) (hs3.bz.bsame SM)).mono ?_;rintro e w3 ⟨rfl,rfl⟩)
     | (go_at_call 53;refine (bU6 _ V V' x.2 d1 d1' ((hs2.z pairR_stays).same pairR_stays SM) ((hs4.z pairR_stays).same pairR_stays SM) hxb).mono ?_;rintro e w2 ⟨rfl,hbw2⟩))
   go_wp2
   go_roundw
   case rel=>exact⟨k+1,AO,by go_num,Hbel.out.drew.next hbw2 ZC8⟩
   case measure=>simp[intOf];omega
  ·go_wp2
   go_ret
   exact⟨rfl,Hbel.out⟩
theorem SameForestK_ok (w:World) (A B:Option Addr) (l:List Tn) (c d:Nat) (ha:Ts All w A l) (hb:Ts All w B l) (hn:l.length≤big) :
  Calls Tryz.prog 15 #[.slice A l.length c,.slice B l.length d] w (bQ w (.bool true)):=by
 have h:=bS7 w A B l c d ha hb hn
 go_enter Tryz.func15,Tryz.ntmps15
 go_wp2_with (go_at_call 32;(with_reducible refine h.mono ?_);rintro e w1 ⟨rfl,hb1⟩)
 go_ret
 exact⟨rfl,hb1⟩
end Go.Proofs.YtodopbnhkkkcbaaGreatDoor
